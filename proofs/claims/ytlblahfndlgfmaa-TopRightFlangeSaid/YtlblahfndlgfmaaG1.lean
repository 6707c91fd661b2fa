/-
  Walks. Conditions: none.
-/
import Derived.Test.YtlblahfndlgfmaaF10
set_option linter.unusedVariables false
set_option linter.unusedSimpArgs false
namespace Go.Proofs.Ytlblahfndlgfmaa
open Go.RowKit Go.SL
set_option maxHeartbeats 1000000
set_option maxRecDepth 1000000
attribute [local go_sem] i64w
attribute [local go_sem] dwp_eqGuardE dwp_eqGuardN rval_eqGuardE rval_eqGuardN
theorem flS_map (f : Nat → Int × Int) : ∀ n, flS f n = ((List.range n).map f).flatMap spC
  | 0 => rfl
  | n + 1 => by rw [flS, flS_map f n, List.range_succ, List.map_append, List.flatMap_append]; simp
theorem tight1_ok (ro : Addr → Option Value) (x y nd : Int) (gB gf : Nat) (h1 : ro ⟨gB, 0, none⟩ = some (.pointer (some ⟨gf, 0, none⟩))) (h2 : ro ⟨gf, 15, none⟩ = some (.int .i64 nd)) :
    Cr Try.prog 50 #[.agg #[.int .i64 x, .int .i64 y], .pointer (some ⟨gB, 0, none⟩)] ro (.bool (decide (x < nd))) := by
  subst_vars
  (refine Cr.of Try.func50 rfl rfl (fun F hF => ?_); simp only [Try.ntmps50, Try.results50, List.size_toArray, List.length_cons, List.length_nil, Nat.reduceAdd, Nat.reduceSub, Array.replicate_succ, Array.replicate_zero, List.push_toArray, List.append_toArray, List.nil_append, List.cons_append]; simp -implicitDefEqProofs (maxSteps := 1000000) only [go_sem, seval])
  subst hF
  try simp -implicitDefEqProofs (maxSteps := 1000000) only [go_sem, seval, *]
  repeat' (first | ((first | ((with_reducible refine NewK.intro fun g hg hn => ?_) <;> try simp only [own_none_iff] at hn) | ((with_reducible refine GuardB.split (fun hc => ?_) (fun hc => ?_)) <;> (have hc2 := hc; try simp only [beq_eq_false_iff_ne, beq_iff_eq, ne_eq, bne_iff_ne, bne_eq_false_iff_eq, decide_eq_true_eq, decide_eq_false_iff_not, Bool.not_true, Bool.not_false, Int.not_le, Int.not_lt] at hc2)) | ((with_reducible refine CondK.split (fun hc => ?_) (fun hc => ?_)) <;> (have hc2 := hc; try simp only [beq_eq_false_iff_ne, beq_iff_eq, ne_eq, bne_iff_ne, bne_eq_false_iff_eq, decide_eq_true_eq, decide_eq_false_iff_not, Bool.not_true, Bool.not_false, Int.not_le, Int.not_lt] at hc2)) | ((with_reducible refine PickK.split (fun hc => ?_) (fun hc => ?_)) <;> (have hc2 := hc; try simp only [beq_eq_false_iff_ne, beq_iff_eq, ne_eq, bne_iff_ne, bne_eq_false_iff_eq, decide_eq_true_eq, decide_eq_false_iff_not, Bool.not_true, Bool.not_false, Int.not_le, Int.not_lt] at hc2)) | (with_reducible refine dop_buildSlice ?_) | (with_reducible refine dop_build ?_) | ((with_reducible refine GuardD.split (fun hc => ?_) (fun hc => ?_)) <;> (have hc2 := hc; try simp only [beq_eq_false_iff_ne, beq_iff_eq, ne_eq, bne_iff_ne, bne_eq_false_iff_eq, decide_eq_true_eq, decide_eq_false_iff_not, Bool.not_true, Bool.not_false, Int.not_le, Int.not_lt] at hc2)) | (with_reducible refine stp_build ?_) | (with_reducible refine stp_buildSlice ?_) | (with_reducible refine stp_store ?_) | (with_reducible refine stp_ns ?_) | (with_reducible refine NsB.intro (fun h' ho K' hk => by simp -implicitDefEqProofs (maxSteps := 1000000) only [go_sem, seval, *] <;> exact hk) ?_) | (with_reducible refine WrB.intro _ (by simp -implicitDefEqProofs (maxSteps := 1000000) only [go_sem, seval, *]) (fun h' ho K' hk => by simp -implicitDefEqProofs (maxSteps := 1000000) only [go_sem, seval, *]; exact hk) (fun h' ho K' hk => by simp -implicitDefEqProofs (maxSteps := 1000000) only [go_sem, seval, *] at hk; exact hk) (fun h' ho hk => by simp -implicitDefEqProofs (maxSteps := 1000000) only [go_sem, seval, *] at hk <;> with_unfolding_all exact False.elim hk) ?_) | (with_reducible refine WrB.intro _ (by simp -implicitDefEqProofs (maxSteps := 1000000) only [go_sem, seval, *]) (fun h' ho K' hk => by simp -implicitDefEqProofs (maxSteps := 1000000) only [go_sem, seval, *]; exact hk) ?_) | ((with_reducible refine DDraw.auto mo ?_ ?_); kernel_rfl)) <;> simp -implicitDefEqProofs (maxSteps := 1000000) only [go_sem, seval, *]) | (with_reducible refine bi_same ?_))
def IFT (n b off c gB : Nat) (nd : Int) (ws : List (Int × Int)) (k : Nat) (a : Act) (h : Hp) : Prop :=
  ∃ (i : Nat) (x2 x3 x5 x9 x10 x11 x12 x13 x14 x15 x16 x17 x18 : Value), Hold (i + k = n) ∧ h = Hp.none_ ∧ Hold (idxL (fun w => decide (w.1 < nd)) ws 0 = idxL (fun w => decide (w.1 < nd)) (ws.drop i) i) ∧ a = ⟨#[.slice (some ⟨b, off, none⟩) n c, .func (.func 50) #[] #[.pointer (some ⟨gB, 0, none⟩)], x2, x3, .int .i64 0, x5, .slice (some ⟨b, off, none⟩) n c, .int .i64 n, .int .i64 i, x9, x10, x11, x12, x13, x14, x15, x16, x17, x18], []⟩
theorem indexTight (ro : Addr → Option Value) (b off n c gB gf : Nat) (nd : Int) (ws : List (Int × Int)) (hx : Hold (readV ro b off (n * 2) = some (ws.flatMap spC))) (hn : Hold (n < 2 ^ 63)) (h1 : ro ⟨gB, 0, none⟩ = some (.pointer (some ⟨gf, 0, none⟩))) (h2 : ro ⟨gf, 15, none⟩ = some (.int .i64 nd)) :
    Cr Try.prog 68 #[.slice (some ⟨b, off, none⟩) n c, .func (.func 50) #[] #[.pointer (some ⟨gB, 0, none⟩)]] ro (.int .i64 (idxL (fun w => decide (w.1 < nd)) ws 0)) := by
  replace h1 := Hold.mk h1
  replace h2 := Hold.mk h2
  (refine Cr.of Try.func68 rfl rfl (fun F hF => ?_); simp only [Try.ntmps68, Try.results68, List.size_toArray, List.length_cons, List.length_nil, Nat.reduceAdd, Nat.reduceSub, Array.replicate_succ, Array.replicate_zero, List.push_toArray, List.append_toArray, List.nil_append, List.cons_append]; simp -implicitDefEqProofs (maxSteps := 1000000) only [go_sem, seval])
  subst hF
  have hlen : ws.length = n := by
    have h1 := readV_len hx.out
    rw [flat_len (f := spC) (s := 2) (fun _ => rfl)] at h1
    omega
  refine DLoop.ind (IFT n b off c gB nd ws) n ⟨0, _, _, _, _, _, _, _, _, _, _, _, _, _, ⟨by omega⟩, rfl, ⟨by simp⟩, rfl⟩ ?_
  rintro k a h ⟨i, x2, x3, x5, x9, x10, x11, x12, x13, x14, x15, x16, x17, x18, hk, rfl, hI, rfl⟩
  simp -implicitDefEqProofs (maxSteps := 1000000) only [go_sem, seval, *]
  refine CondK.split (fun hc => ?_) (fun hc => ?_)
  · have hlt : i < n := by simpa using hc
    have h0 : (0 : Int) ≤ (i : Int) := by omega
    have h1' : (i : Int) < (n : Int) := by omega
    have hxi : ws[i]? = some ws[i] := List.getElem?_eq_getElem (by omega)
    have hro := readV_at (f := spC) (s := 2) (fun _ => rfl) hx.out hxi
    have hd : ws.drop i = ws[i] :: ws.drop (i + 1) := List.drop_eq_getElem_cons (by omega)
    have hI' := hI.out
    rw [hd, idxL] at hI'
    generalize hxv : ws[i] = w at *
    have r0 := hro 0 _ rfl
    have r1 := hro 1 _ rfl
    simp -implicitDefEqProofs (maxSteps := 1000000) only [go_sem, seval, hc, h0, h1', r0, r1, add_none]
    refine Cr.call (tight1_ok _ _ _ nd _ gf (Hp.cell_ro h1.out) (Hp.cell_ro h2.out)) ?_
    simp -implicitDefEqProofs (maxSteps := 1000000) only [go_sem, seval]
    refine CondK.split (fun hc => ?_) (fun hc => ?_)
    · rw [if_pos hc] at hI'
      simp -implicitDefEqProofs (maxSteps := 1000000) only [go_sem, seval]
      rw [hI']
    · rw [if_neg (by simpa using hc)] at hI'
      simp -implicitDefEqProofs (maxSteps := 1000000) only [go_sem, seval]
      have hw : IntKind.i64.wrap ((i : Int) + 1) = ((i + 1 : Nat) : Int) := by
        have := hn.out
        rw [IntWalk.i64_in _ (by omega)]; push_cast; rfl
      have hk' := hk.out
      rw [hw]
      exact LoopK.intro (k - 1) (by omega) ⟨i + 1, _, _, _, _, _, _, _, _, _, _, _, _, _, ⟨by omega⟩, rfl, ⟨by rw [hI']; push_cast; rfl⟩, rfl⟩
  · have hge : n ≤ i := by simpa using hc
    have hI' := hI.out
    rw [List.drop_eq_nil_of_le (by omega), idxL] at hI'
    simp -implicitDefEqProofs (maxSteps := 1000000) only [go_sem, seval, hc]
    rw [hI']
theorem containsTight (ro : Addr → Option Value) (b off n c gB gf : Nat) (nd : Int) (ws : List (Int × Int)) (hx : Hold (readV ro b off (n * 2) = some (ws.flatMap spC))) (hn : Hold (n < 2 ^ 63)) (h1 : ro ⟨gB, 0, none⟩ = some (.pointer (some ⟨gf, 0, none⟩))) (h2 : ro ⟨gf, 15, none⟩ = some (.int .i64 nd)) :
    Cr Try.prog 49 #[.slice (some ⟨b, off, none⟩) n c, .func (.func 50) #[] #[.pointer (some ⟨gB, 0, none⟩)]] ro (.bool (ws.any fun w => decide (w.1 < nd))) := by
  replace h1 := Hold.mk h1
  replace h2 := Hold.mk h2
  (refine Cr.of Try.func49 rfl rfl (fun F hF => ?_); simp only [Try.ntmps49, Try.results49, List.size_toArray, List.length_cons, List.length_nil, Nat.reduceAdd, Nat.reduceSub, Array.replicate_succ, Array.replicate_zero, List.push_toArray, List.append_toArray, List.nil_append, List.cons_append]; simp -implicitDefEqProofs (maxSteps := 1000000) only [go_sem, seval])
  subst hF
  refine Cr.call (indexTight _ b off n c gB gf nd ws ⟨readV_mono (fun a u e => Hp.cell_ro e) hx.out⟩ hn (Hp.cell_ro h1.out) (Hp.cell_ro h2.out)) ?_
  simp -implicitDefEqProofs (maxSteps := 1000000) only [go_sem, seval]
  rw [← idxL_ge _ ws 0 (by omega)]
/-- Have all bolts the force that they need? -/
def tightV (f : Nat → Int × Int) (n : Nat) (nd : Int) : Bool := !(((List.range n).map f).any fun w => decide (w.1 < nd))
theorem isTight_ok (ro : Addr → Option Value) (gf gF n cF : Nat) (nd : Int) (f : Nat → Int × Int) (hz : Hold (n < 2 ^ 63)) (h1 : ro ⟨gf, 16, none⟩ = some (.slice (some ⟨gF, 0, none⟩) n cF)) (h2 : ro ⟨gf, 15, none⟩ = some (.int .i64 nd)) (hx : Hold (readV ro gF 0 (n * 2) = some (flS f n))) :
    Cr Try.prog 25 #[.pointer (some ⟨gf, 0, none⟩)] ro (.bool (tightV f n nd)) := by
  replace h2 := Hold.mk h2
  have e : tightV f n nd = !(((List.range n).map f).any fun w => decide (w.1 < nd)) := rfl
  rw [e]
  clear e
  rw [flS_map] at hx
  generalize (List.range n).map f = ws at *
  (refine Cr.of Try.func25 rfl rfl (fun F hF => ?_); simp only [Try.ntmps25, Try.results25, List.size_toArray, List.length_cons, List.length_nil, Nat.reduceAdd, Nat.reduceSub, Array.replicate_succ, Array.replicate_zero, List.push_toArray, List.append_toArray, List.nil_append, List.cons_append]; simp -implicitDefEqProofs (maxSteps := 1000000) only [go_sem, seval])
  subst hF
  try simp -implicitDefEqProofs (maxSteps := 1000000) only [go_sem, seval, *]
  repeat' (first | ((first | ((with_reducible refine NewK.intro fun g hg hn => ?_) <;> try simp only [own_none_iff] at hn) | ((with_reducible refine GuardB.split (fun hc => ?_) (fun hc => ?_)) <;> (have hc2 := hc; try simp only [beq_eq_false_iff_ne, beq_iff_eq, ne_eq, bne_iff_ne, bne_eq_false_iff_eq, decide_eq_true_eq, decide_eq_false_iff_not, Bool.not_true, Bool.not_false, Int.not_le, Int.not_lt] at hc2)) | ((with_reducible refine CondK.split (fun hc => ?_) (fun hc => ?_)) <;> (have hc2 := hc; try simp only [beq_eq_false_iff_ne, beq_iff_eq, ne_eq, bne_iff_ne, bne_eq_false_iff_eq, decide_eq_true_eq, decide_eq_false_iff_not, Bool.not_true, Bool.not_false, Int.not_le, Int.not_lt] at hc2)) | ((with_reducible refine PickK.split (fun hc => ?_) (fun hc => ?_)) <;> (have hc2 := hc; try simp only [beq_eq_false_iff_ne, beq_iff_eq, ne_eq, bne_iff_ne, bne_eq_false_iff_eq, decide_eq_true_eq, decide_eq_false_iff_not, Bool.not_true, Bool.not_false, Int.not_le, Int.not_lt] at hc2)) | (with_reducible refine dop_buildSlice ?_) | (with_reducible refine dop_build ?_) | ((with_reducible refine Cr.call (f := 49) (containsTight _ _ _ _ _ _ gf nd ws ⟨readV_mono (fun a u e => Hp.cell_ro e) hx.out⟩ hz (by simp -implicitDefEqProofs (maxSteps := 1000000) only [go_sem, seval, *]) (Hp.cell_ro h2.out)) ?_)) | (with_reducible refine CallV.of (f := 49) (containsTight _ _ _ _ _ _ gf nd ws ⟨readV_mono (fun a u e => Hp.cell_ro e) hx.out⟩ hz (by simp -implicitDefEqProofs (maxSteps := 1000000) only [go_sem, seval, *]) (Hp.cell_ro h2.out)) ni49 ?_) | ((with_reducible refine GuardD.split (fun hc => ?_) (fun hc => ?_)) <;> (have hc2 := hc; try simp only [beq_eq_false_iff_ne, beq_iff_eq, ne_eq, bne_iff_ne, bne_eq_false_iff_eq, decide_eq_true_eq, decide_eq_false_iff_not, Bool.not_true, Bool.not_false, Int.not_le, Int.not_lt] at hc2)) | (with_reducible refine stp_build ?_) | (with_reducible refine stp_buildSlice ?_) | (with_reducible refine stp_store ?_) | (with_reducible refine stp_ns ?_) | (with_reducible refine NsB.intro (fun h' ho K' hk => by simp -implicitDefEqProofs (maxSteps := 1000000) only [go_sem, seval, *] <;> exact hk) ?_) | (with_reducible refine WrB.intro _ (by simp -implicitDefEqProofs (maxSteps := 1000000) only [go_sem, seval, *]) (fun h' ho K' hk => by simp -implicitDefEqProofs (maxSteps := 1000000) only [go_sem, seval, *]; exact hk) (fun h' ho K' hk => by simp -implicitDefEqProofs (maxSteps := 1000000) only [go_sem, seval, *] at hk; exact hk) (fun h' ho hk => by simp -implicitDefEqProofs (maxSteps := 1000000) only [go_sem, seval, *] at hk <;> with_unfolding_all exact False.elim hk) ?_) | (with_reducible refine WrB.intro _ (by simp -implicitDefEqProofs (maxSteps := 1000000) only [go_sem, seval, *]) (fun h' ho K' hk => by simp -implicitDefEqProofs (maxSteps := 1000000) only [go_sem, seval, *]; exact hk) ?_) | ((with_reducible refine DDraw.auto mo ?_ ?_); kernel_rfl)) <;> simp -implicitDefEqProofs (maxSteps := 1000000) only [go_sem, seval, *]) | (with_reducible refine bi_same ?_))
theorem isSafe_ok (ro : Addr → Option Value) (gf : Nat) (m y : Int) (h1 : ro ⟨gf, 18, none⟩ = some (.int .i64 m)) (h2 : ro ⟨gf, 12, none⟩ = some (.int .i64 y)) :
    Cr Try.prog 26 #[.pointer (some ⟨gf, 0, none⟩)] ro (.bool (decide (m ≤ y))) := by
  (refine Cr.of Try.func26 rfl rfl (fun F hF => ?_); simp only [Try.ntmps26, Try.results26, List.size_toArray, List.length_cons, List.length_nil, Nat.reduceAdd, Nat.reduceSub, Array.replicate_succ, Array.replicate_zero, List.push_toArray, List.append_toArray, List.nil_append, List.cons_append]; simp -implicitDefEqProofs (maxSteps := 1000000) only [go_sem, seval])
  subst hF
  try simp -implicitDefEqProofs (maxSteps := 1000000) only [go_sem, seval, *]
  repeat' (first | ((first | ((with_reducible refine NewK.intro fun g hg hn => ?_) <;> try simp only [own_none_iff] at hn) | ((with_reducible refine GuardB.split (fun hc => ?_) (fun hc => ?_)) <;> (have hc2 := hc; try simp only [beq_eq_false_iff_ne, beq_iff_eq, ne_eq, bne_iff_ne, bne_eq_false_iff_eq, decide_eq_true_eq, decide_eq_false_iff_not, Bool.not_true, Bool.not_false, Int.not_le, Int.not_lt] at hc2)) | ((with_reducible refine CondK.split (fun hc => ?_) (fun hc => ?_)) <;> (have hc2 := hc; try simp only [beq_eq_false_iff_ne, beq_iff_eq, ne_eq, bne_iff_ne, bne_eq_false_iff_eq, decide_eq_true_eq, decide_eq_false_iff_not, Bool.not_true, Bool.not_false, Int.not_le, Int.not_lt] at hc2)) | ((with_reducible refine PickK.split (fun hc => ?_) (fun hc => ?_)) <;> (have hc2 := hc; try simp only [beq_eq_false_iff_ne, beq_iff_eq, ne_eq, bne_iff_ne, bne_eq_false_iff_eq, decide_eq_true_eq, decide_eq_false_iff_not, Bool.not_true, Bool.not_false, Int.not_le, Int.not_lt] at hc2)) | (with_reducible refine dop_buildSlice ?_) | (with_reducible refine dop_build ?_) | ((with_reducible refine GuardD.split (fun hc => ?_) (fun hc => ?_)) <;> (have hc2 := hc; try simp only [beq_eq_false_iff_ne, beq_iff_eq, ne_eq, bne_iff_ne, bne_eq_false_iff_eq, decide_eq_true_eq, decide_eq_false_iff_not, Bool.not_true, Bool.not_false, Int.not_le, Int.not_lt] at hc2)) | (with_reducible refine stp_build ?_) | (with_reducible refine stp_buildSlice ?_) | (with_reducible refine stp_store ?_) | (with_reducible refine stp_ns ?_) | (with_reducible refine NsB.intro (fun h' ho K' hk => by simp -implicitDefEqProofs (maxSteps := 1000000) only [go_sem, seval, *] <;> exact hk) ?_) | (with_reducible refine WrB.intro _ (by simp -implicitDefEqProofs (maxSteps := 1000000) only [go_sem, seval, *]) (fun h' ho K' hk => by simp -implicitDefEqProofs (maxSteps := 1000000) only [go_sem, seval, *]; exact hk) (fun h' ho K' hk => by simp -implicitDefEqProofs (maxSteps := 1000000) only [go_sem, seval, *] at hk; exact hk) (fun h' ho hk => by simp -implicitDefEqProofs (maxSteps := 1000000) only [go_sem, seval, *] at hk <;> with_unfolding_all exact False.elim hk) ?_) | (with_reducible refine WrB.intro _ (by simp -implicitDefEqProofs (maxSteps := 1000000) only [go_sem, seval, *]) (fun h' ho K' hk => by simp -implicitDefEqProofs (maxSteps := 1000000) only [go_sem, seval, *]; exact hk) ?_) | ((with_reducible refine DDraw.auto mo ?_ ?_); kernel_rfl)) <;> simp -implicitDefEqProofs (maxSteps := 1000000) only [go_sem, seval, *]) | (with_reducible refine bi_same ?_))

end Go.Proofs.Ytlblahfndlgfmaa
