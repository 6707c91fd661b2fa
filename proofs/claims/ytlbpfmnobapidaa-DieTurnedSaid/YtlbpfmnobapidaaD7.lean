/-
  Walks. Conditions: none.
-/
import Derived.Test.YtlbpfmnobapidaaD6
set_option linter.unusedVariables false
set_option linter.unusedSimpArgs false
namespace Go.Proofs.Ytlbpfmnobapidaa
open Go.RowKit Go.SL
set_option maxHeartbeats 1000000
set_option maxRecDepth 1000000
attribute [local go_sem] fl_getD fl_get fl_set lk_def st_def gL_nil gL_zero gL_succ sL_nil_zero sL_nil_succ sL_zero sL_succ Option.getD_none FgK_app onlyL_nil onlyL_none onlyL_some setO_some toB_bool toB_undef yl_def
attribute [local go_sem high] GuardK_yl GuardL_yl
attribute [local go_sem] i64w
attribute [local go_sem] add_none
/-- What is valid of a shop. -/
structure ShopB (s0 s1 c0 c1 : Int) (nw no : Nat) (ws : List (Int × Int)) (os : List Ord) : Prop where
  ords : OrdsOk nw os ∧ os.length = no
  wears : WearsOk nw ws
  aim : AimOk s0 s1 c0 c1
def tgF (s0 s1 c0 c1 : Int) (ws : List (Int × Int)) (os : List Ord) (fr to : Int) : Int × Int := ((tgN s0 s1 c0 c1 ws os fr to os.length).1, (tgN s0 s1 c0 c1 ws os fr to os.length).2.1)
def allV (os : List Ord) : Int := fstV os os.length
theorem tgF_ok (ro : Addr → Option Value) (gs : Nat) (s0 s1 c0 c1 : Int) (pw : Option Addr) (nw cw : Nat) (po : Option Addr) (no co : Nat) (pf : Option Addr) (cf : Nat) (dn : Bool) (ws : List (Int × Int)) (os : List Ord) (fr to : Int) (hS : ShopR ro gs s0 s1 c0 c1 pw nw cw po no co pf cf dn ws os) (hV : Hold (ShopB s0 s1 c0 c1 nw no ws os)) (hB : Hold ((-1000000 ≤ fr ∧ fr ≤ 1000000) ∧ -1000000 ≤ to ∧ to ≤ 1000000)) :
    Cr Try.prog 68 #[.pointer (some ⟨gs, 0, none⟩), .int .i64 fr, .int .i64 to] ro (.agg #[.int .i64 (tgF s0 s1 c0 c1 ws os fr to).1, .int .i64 (tgF s0 s1 c0 c1 ws os fr to).2]) := by
  have := targets_ok ro gs s0 s1 c0 c1 pw nw cw po no co pf cf dn ws os fr to hS ⟨hV.out.ords⟩ ⟨hV.out.wears⟩ ⟨hV.out.aim⟩ hB
  rw [← hV.out.ords.2] at this
  exact this
def canV (s0 s1 c0 c1 : Int) (ws : List (Int × Int)) (os : List Ord) (fr to : Int) : Bool := decide ((tgF s0 s1 c0 c1 ws os fr to).1 ≤ (tgF s0 s1 c0 c1 ws os fr to).2)
theorem can_ok (ro : Addr → Option Value) (gs : Nat) (s0 s1 c0 c1 : Int) (pw : Option Addr) (nw cw : Nat) (po : Option Addr) (no co : Nat) (pf : Option Addr) (cf : Nat) (dn : Bool) (ws : List (Int × Int)) (os : List Ord) (fr to : Int) (hS : ShopR ro gs s0 s1 c0 c1 pw nw cw po no co pf cf dn ws os) (hV : Hold (ShopB s0 s1 c0 c1 nw no ws os)) (hB : Hold ((-1000000 ≤ fr ∧ fr ≤ 1000000) ∧ -1000000 ≤ to ∧ to ≤ 1000000)) :
    Cr Try.prog 66 #[.pointer (some ⟨gs, 0, none⟩), .int .i64 fr, .int .i64 to] ro (.bool (canV s0 s1 c0 c1 ws os fr to)) := by
  unfold canV
  have hc : Hold (∀ ro, ShopR ro gs s0 s1 c0 c1 pw nw cw po no co pf cf dn ws os → Cr Try.prog 68 #[.pointer (some ⟨gs, 0, none⟩), .int .i64 fr, .int .i64 to] ro (.agg #[.int .i64 (tgF s0 s1 c0 c1 ws os fr to).1, .int .i64 (tgF s0 s1 c0 c1 ws os fr to).2])) := ⟨fun ro h => tgF_ok ro gs s0 s1 c0 c1 pw nw cw po no co pf cf dn ws os fr to h hV hB⟩
  generalize tgF s0 s1 c0 c1 ws os fr to = t at *
  replace hS := Hold.mk hS
  (refine Cr.ofP (l := _) Try.func66 Try.ntmps66 rfl rfl (by simp only [seval, List.length_cons, List.length_nil]) (by simp only [seval, List.length_cons, List.length_nil]) (fun F hF => ?_); simp only [Try.results66, List.map_cons, List.map_nil])
  subst hF
  repeat' (first | (with_reducible refine at_seq (by with_unfolding_all exact rfl) ?_) | ((with_reducible first | refine at_plain (by with_unfolding_all exact rfl) ?_ | refine at_cond (by with_unfolding_all exact rfl) ?_ | refine at_exit (by with_unfolding_all exact rfl) ?_ | refine at_ret (by with_unfolding_all exact rfl) ?_ | refine at_skip (by with_unfolding_all exact rfl) ?_ | refine at_label (by with_unfolding_all exact rfl) ?_) <;> try simp -implicitDefEqProofs (maxSteps := 1000000) only [go_sem, seval, *]) | (with_reducible first | refine at_block (by with_unfolding_all exact rfl) ?_ | refine at_loop (by with_unfolding_all exact rfl) ?_) | ((first | ((with_reducible refine NewK.intro fun g hg hn => ?_) <;> try simp only [own_none_iff] at hn) | ((with_reducible first | refine GuardB.split (fun hc => ?_) (fun hc => ?_) | refine CondK.split (fun hc => ?_) (fun hc => ?_) | refine PickK.split (fun hc => ?_) (fun hc => ?_) | refine GuardD.split (fun hc => ?_) (fun hc => ?_)) <;> (have hc2 := hc; try simp only [beq_eq_false_iff_ne, beq_iff_eq, ne_eq, bne_iff_ne, bne_eq_false_iff_eq, decide_eq_true_eq, decide_eq_false_iff_not, Bool.not_true, Bool.not_false, Int.not_le, Int.not_lt] at hc2)) | (with_reducible first | refine dop_buildSlice ?_ | refine dop_build ?_) | ((with_reducible refine Cr.call (f := 68) (hc.out _ (hS.out.mono (fun a u e => Hp.cell_ro e))) ?_)) | (with_reducible refine CallV.of (f := 68) (hc.out _ (hS.out.mono (fun a u e => Hp.cell_ro e))) ni68 ?_)) <;> simp -implicitDefEqProofs (maxSteps := 1000000) only [go_sem, seval, *]))
def backV (dn : Bool) (x : Int × Int) : Int × Int := if dn then (-x.2, -x.1) else x
theorem back_ok (ro : Addr → Option Value) (gs : Nat) (dn : Bool) (a b : Int) (h8 : ro ⟨gs, 8, none⟩ = some (.bool dn)) (h1 : IntKind.i64.wrap (0 - a) = -a) (h2 : IntKind.i64.wrap (0 - b) = -b) :
    Cr Try.prog 67 #[.pointer (some ⟨gs, 0, none⟩), .agg #[.int .i64 a, .int .i64 b]] ro (.agg #[.int .i64 (backV dn (a, b)).1, .int .i64 (backV dn (a, b)).2]) := by
  unfold backV
  cases dn with
  | true =>
    (refine Cr.ofP (l := _) Try.func67 Try.ntmps67 rfl rfl (by simp only [seval, List.length_cons, List.length_nil]) (by simp only [seval, List.length_cons, List.length_nil]) (fun F hF => ?_); simp only [Try.results67, List.map_cons, List.map_nil])
    subst hF
    repeat' (first | (with_reducible refine at_seq (by with_unfolding_all exact rfl) ?_) | ((with_reducible first | refine at_plain (by with_unfolding_all exact rfl) ?_ | refine at_cond (by with_unfolding_all exact rfl) ?_ | refine at_exit (by with_unfolding_all exact rfl) ?_ | refine at_ret (by with_unfolding_all exact rfl) ?_ | refine at_skip (by with_unfolding_all exact rfl) ?_ | refine at_label (by with_unfolding_all exact rfl) ?_) <;> try simp -implicitDefEqProofs (maxSteps := 1000000) only [go_sem, seval, *]) | (with_reducible first | refine at_block (by with_unfolding_all exact rfl) ?_ | refine at_loop (by with_unfolding_all exact rfl) ?_) | ((first | ((with_reducible refine NewK.intro fun g hg hn => ?_) <;> try simp only [own_none_iff] at hn) | ((with_reducible first | refine GuardB.split (fun hc => ?_) (fun hc => ?_) | refine CondK.split (fun hc => ?_) (fun hc => ?_) | refine PickK.split (fun hc => ?_) (fun hc => ?_) | refine GuardD.split (fun hc => ?_) (fun hc => ?_)) <;> (have hc2 := hc; try simp only [beq_eq_false_iff_ne, beq_iff_eq, ne_eq, bne_iff_ne, bne_eq_false_iff_eq, decide_eq_true_eq, decide_eq_false_iff_not, Bool.not_true, Bool.not_false, Int.not_le, Int.not_lt] at hc2)) | (with_reducible first | refine dop_buildSlice ?_ | refine dop_build ?_) | ((with_reducible refine Cr.call (f := 81) (turned_ok _ _ _ (by simp -implicitDefEqProofs (maxSteps := 1000000) only [go_sem, seval, *]) (by simp -implicitDefEqProofs (maxSteps := 1000000) only [go_sem, seval, *])) ?_)) | (with_reducible refine CallV.of (f := 81) (turned_ok _ _ _ (by simp -implicitDefEqProofs (maxSteps := 1000000) only [go_sem, seval, *]) (by simp -implicitDefEqProofs (maxSteps := 1000000) only [go_sem, seval, *])) ni81 ?_)) <;> simp -implicitDefEqProofs (maxSteps := 1000000) only [go_sem, seval, *]))
  | false =>
    (refine Cr.ofP (l := _) Try.func67 Try.ntmps67 rfl rfl (by simp only [seval, List.length_cons, List.length_nil]) (by simp only [seval, List.length_cons, List.length_nil]) (fun F hF => ?_); simp only [Try.results67, List.map_cons, List.map_nil])
    subst hF
    repeat' (first | (with_reducible refine at_seq (by with_unfolding_all exact rfl) ?_) | ((with_reducible first | refine at_plain (by with_unfolding_all exact rfl) ?_ | refine at_cond (by with_unfolding_all exact rfl) ?_ | refine at_exit (by with_unfolding_all exact rfl) ?_ | refine at_ret (by with_unfolding_all exact rfl) ?_ | refine at_skip (by with_unfolding_all exact rfl) ?_ | refine at_label (by with_unfolding_all exact rfl) ?_) <;> try simp -implicitDefEqProofs (maxSteps := 1000000) only [go_sem, seval, *]) | (with_reducible first | refine at_block (by with_unfolding_all exact rfl) ?_ | refine at_loop (by with_unfolding_all exact rfl) ?_) | ((first | ((with_reducible refine NewK.intro fun g hg hn => ?_) <;> try simp only [own_none_iff] at hn) | ((with_reducible first | refine GuardB.split (fun hc => ?_) (fun hc => ?_) | refine CondK.split (fun hc => ?_) (fun hc => ?_) | refine PickK.split (fun hc => ?_) (fun hc => ?_) | refine GuardD.split (fun hc => ?_) (fun hc => ?_)) <;> (have hc2 := hc; try simp only [beq_eq_false_iff_ne, beq_iff_eq, ne_eq, bne_iff_ne, bne_eq_false_iff_eq, decide_eq_true_eq, decide_eq_false_iff_not, Bool.not_true, Bool.not_false, Int.not_le, Int.not_lt] at hc2)) | (with_reducible first | refine dop_buildSlice ?_ | refine dop_build ?_)) <;> simp -implicitDefEqProofs (maxSteps := 1000000) only [go_sem, seval, *]))
theorem all_ok (ro : Addr → Option Value) (gs : Nat) (s0 s1 c0 c1 : Int) (pw : Option Addr) (nw cw : Nat) (po : Option Addr) (no co : Nat) (pf : Option Addr) (cf : Nat) (dn : Bool) (ws : List (Int × Int)) (os : List Ord) (hS : ShopR ro gs s0 s1 c0 c1 pw nw cw po no co pf cf dn ws os) (hV : Hold (ShopB s0 s1 c0 c1 nw no ws os)) :
    Cr Try.prog 64 #[.pointer (some ⟨gs, 0, none⟩)] ro (.int .i64 (allV os)) := by
  have ol := hV.out.ords.2
  have n40 := hV.out.ords.1.len.2
  have t7 := hS.m7
  have rf' := hS.rf
  rw [intsF] at rf'
  obtain ⟨bf, off', e, hrf⟩ := rf'.at (f := fun x : Int => [Value.int .i64 x]) (fun _ => rfl) (i := no) (by omega) (fstL_get (by omega))
  have r4 := hrf 0 _ rfl
  rw [Nat.mul_one, Nat.add_zero] at r4
  rw [e] at t7
  have w1 : IntKind.i64.wrap (((no + 1 : Nat) : Int) - 1) = (no : Int) := by rw [IntWalk.i64_in _ (by omega)]; omega
  have c0 : (0 : Int) ≤ (no : Int) := by omega
  have c1 : ((no : Int) < ((no + 1 : Nat) : Int)) = True := by simp only [eq_iff_iff, iff_true]; omega
  unfold allV
  rw [ol]
  generalize fstV os no = v at *
  clear hrf e rf' ol n40 hS
  (refine Cr.ofP (l := _) Try.func64 Try.ntmps64 rfl rfl (by simp only [seval, List.length_cons, List.length_nil]) (by simp only [seval, List.length_cons, List.length_nil]) (fun F hF => ?_); simp only [Try.results64, List.map_cons, List.map_nil])
  subst hF
  repeat' (first | (with_reducible refine at_seq (by with_unfolding_all exact rfl) ?_) | ((with_reducible first | refine at_plain (by with_unfolding_all exact rfl) ?_ | refine at_draw (by with_unfolding_all exact rfl) ?_ | refine at_cond (by with_unfolding_all exact rfl) ?_ | refine at_exit (by with_unfolding_all exact rfl) ?_ | refine at_ret (by with_unfolding_all exact rfl) ?_ | refine at_skip (by with_unfolding_all exact rfl) ?_ | refine at_label (by with_unfolding_all exact rfl) ?_) <;> try simp -implicitDefEqProofs (maxSteps := 1000000) only [go_sem, seval, *]) | (with_reducible first | refine at_block (by with_unfolding_all exact rfl) ?_ | refine at_loop (by with_unfolding_all exact rfl) ?_) | ((first | ((with_reducible refine NewK.intro fun g hg hn => ?_) <;> try simp only [own_none_iff] at hn) | ((with_reducible first | refine GuardB.split (fun hc => ?_) (fun hc => ?_) | refine CondK.split (fun hc => ?_) (fun hc => ?_) | refine PickK.split (fun hc => ?_) (fun hc => ?_) | refine GuardD.split (fun hc => ?_) (fun hc => ?_)) <;> (have hc2 := hc; try simp only [beq_eq_false_iff_ne, beq_iff_eq, ne_eq, bne_iff_ne, bne_eq_false_iff_eq, decide_eq_true_eq, decide_eq_false_iff_not, Bool.not_true, Bool.not_false, Int.not_le, Int.not_lt] at hc2)) | (with_reducible first | refine dop_buildSlice ?_ | refine dop_build ?_) | (with_reducible first | refine stp_build ?_ | refine stp_buildSlice ?_ | refine stp_store ?_ | refine stp_ns ?_) | (with_reducible refine NsB.intro (fun h' ho K' hk => by simp -implicitDefEqProofs (maxSteps := 1000000) only [go_sem, seval, *] <;> exact hk) ?_) | (with_reducible refine WrB.intro _ (by simp -implicitDefEqProofs (maxSteps := 1000000) only [go_sem, seval, *]) (fun h' ho K' hk => by simp -implicitDefEqProofs (maxSteps := 1000000) only [go_sem, seval, *]; exact hk) (fun h' ho K' hk => by simp -implicitDefEqProofs (maxSteps := 1000000) only [go_sem, seval, *] at hk; exact hk) (fun h' ho hk => by simp -implicitDefEqProofs (maxSteps := 1000000) only [go_sem, seval, *] at hk <;> with_unfolding_all exact False.elim hk) ?_) | (with_reducible refine WrB.intro _ (by simp -implicitDefEqProofs (maxSteps := 1000000) only [go_sem, seval, *]) (fun h' ho K' hk => by simp -implicitDefEqProofs (maxSteps := 1000000) only [go_sem, seval, *]; exact hk) ?_) | ((with_reducible refine DDraw.auto mo ?_ ?_); kernel_rfl)) <;> simp -implicitDefEqProofs (maxSteps := 1000000) only [go_sem, seval, *]) | (with_reducible refine bi_same ?_))

end Go.Proofs.Ytlbpfmnobapidaa
