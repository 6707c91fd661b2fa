/-
  Walks. Conditions: none.
-/
import Derived.Test.YtlblahfndlgfmaaB20
set_option linter.unusedVariables false
set_option linter.unusedSimpArgs false
namespace Go.Proofs.Ytlblahfndlgfmaa
open Go.RowKit Go.SL
set_option maxHeartbeats 1000000
set_option maxRecDepth 1000000
attribute [local go_sem] i64w
attribute [local go_sem] dwp_eqGuardE dwp_eqGuardN rval_eqGuardE rval_eqGuardN
/-- A way: its kind, torque, angle and stretch. -/
structure Way where
  k : Int
  t0 : Int
  t1 : Int
  a0 : Int
  a1 : Int
  s0 : Int
  s1 : Int
def Way.cs (w : Way) : List Value := [.int .i64 w.k, .int .i64 w.t0, .int .i64 w.t1, .int .i64 w.a0, .int .i64 w.a1, .int .i64 w.s0, .int .i64 w.s1]
theorem Way.cs_len (w : Way) : w.cs.length = 7 := rfl
def Way.ok (w : Way) : Bool := wayB w.k w.t0 w.t1 w.a0 w.a1 w.s0 w.s1
def IFW (n b off c : Nat) (ws : List Way) (k : Nat) (a : Act) (h : Hp) : Prop :=
  ∃ (i : Nat) (x2 x3 x5 x9 x10 x11 x12 x13 x14 x15 x16 x17 x18 : Value), Hold (i + k = n) ∧ h = Hp.none_ ∧ Hold (idxL (fun w => !w.ok) ws 0 = idxL (fun w => !w.ok) (ws.drop i) i) ∧ a = ⟨#[.slice (some ⟨b, off, none⟩) n c, .func (.func 41) #[] #[], x2, x3, .int .i64 0, x5, .slice (some ⟨b, off, none⟩) n c, .int .i64 n, .int .i64 i, x9, x10, x11, x12, x13, x14, x15, x16, x17, x18], []⟩
theorem indexWays (ro : Addr → Option Value) (b off n c : Nat) (ws : List Way) (hx : Hold (readV ro b off (n * 7) = some (ws.flatMap Way.cs))) (hn : Hold (n < 2 ^ 63)) :
    Cr Try.prog 62 #[.slice (some ⟨b, off, none⟩) n c, .func (.func 41) #[] #[]] ro (.int .i64 (idxL (fun w => !w.ok) ws 0)) := by
  (refine Cr.of Try.func62 rfl rfl (fun F hF => ?_); simp only [Try.ntmps62, Try.results62, List.size_toArray, List.length_cons, List.length_nil, Nat.reduceAdd, Nat.reduceSub, Array.replicate_succ, Array.replicate_zero, List.push_toArray, List.append_toArray, List.nil_append, List.cons_append]; simp -implicitDefEqProofs (maxSteps := 1000000) only [go_sem, seval])
  subst hF
  have hlen : ws.length = n := by
    have h1 := readV_len hx.out
    rw [flat_len Way.cs_len] at h1
    omega
  refine DLoop.ind (IFW n b off c ws) n ⟨0, _, _, _, _, _, _, _, _, _, _, _, _, _, ⟨by omega⟩, rfl, ⟨by simp⟩, rfl⟩ ?_
  rintro k a h ⟨i, x2, x3, x5, x9, x10, x11, x12, x13, x14, x15, x16, x17, x18, hk, rfl, hI, rfl⟩
  simp -implicitDefEqProofs (maxSteps := 1000000) only [go_sem, seval, *]
  refine CondK.split (fun hc => ?_) (fun hc => ?_)
  · have hlt : i < n := by simpa using hc
    have h0 : (0 : Int) ≤ (i : Int) := by omega
    have h1 : (i : Int) < (n : Int) := by omega
    have hxi : ws[i]? = some ws[i] := List.getElem?_eq_getElem (by omega)
    have hro := readV_at Way.cs_len hx.out hxi
    have hd : ws.drop i = ws[i] :: ws.drop (i + 1) := List.drop_eq_getElem_cons (by omega)
    have hI' := hI.out
    rw [hd, idxL] at hI'
    generalize hxv : ws[i] = w at *
    have r0 := hro 0 _ rfl
    have r1 := hro 1 _ rfl
    have r2 := hro 2 _ rfl
    have r3 := hro 3 _ rfl
    have r4 := hro 4 _ rfl
    have r5 := hro 5 _ rfl
    have r6 := hro 6 _ rfl
    simp -implicitDefEqProofs (maxSteps := 1000000) only [go_sem, seval, hc, h0, h1, r0, r1, r2, r3, r4, r5, r6, add_none]
    refine Cr.call (notWayB _ _ _ _ _ _ _ _) ?_
    simp -implicitDefEqProofs (maxSteps := 1000000) only [go_sem, seval]
    refine CondK.split (fun hc => ?_) (fun hc => ?_)
    · rw [if_pos (by simpa [Way.ok] using hc)] at hI'
      simp -implicitDefEqProofs (maxSteps := 1000000) only [go_sem, seval]
      rw [hI']
    · rw [if_neg (by simpa [Way.ok] using hc)] at hI'
      simp -implicitDefEqProofs (maxSteps := 1000000) only [go_sem, seval]
      have hw : IntKind.i64.wrap ((i : Int) + 1) = ((i + 1 : Nat) : Int) := by
        have := hn.out
        rw [IntWalk.i64_in _ (by omega)]; push_cast; rfl
      have hk' := hk.out
      rw [hw]
      exact LoopK.intro (k - 1) (by omega) ⟨i + 1, _, _, _, _, _, _, _, _, _, _, _, _, _, ⟨by omega⟩, rfl, ⟨by rw [hI']; push_cast; rfl⟩, rfl⟩
  · have hge : n ≤ i := by simpa using hc
    have hI' := hI.out
    rw [List.drop_eq_nil_of_le (by omega), idxL] at hI'
    simp -implicitDefEqProofs (maxSteps := 1000000) only [go_sem, seval, hc]
    rw [hI']
theorem containsWays (ro : Addr → Option Value) (b off n c : Nat) (ws : List Way) (hx : Hold (readV ro b off (n * 7) = some (ws.flatMap Way.cs))) (hn : Hold (n < 2 ^ 63)) :
    Cr Try.prog 40 #[.slice (some ⟨b, off, none⟩) n c, .func (.func 41) #[] #[]] ro (.bool (ws.any fun w => !w.ok)) := by
  (refine Cr.of Try.func40 rfl rfl (fun F hF => ?_); simp only [Try.ntmps40, Try.results40, List.size_toArray, List.length_cons, List.length_nil, Nat.reduceAdd, Nat.reduceSub, Array.replicate_succ, Array.replicate_zero, List.push_toArray, List.append_toArray, List.nil_append, List.cons_append]; simp -implicitDefEqProofs (maxSteps := 1000000) only [go_sem, seval])
  subst hF
  refine Cr.call (indexWays _ b off n c ws ⟨readV_mono (fun a u e => Hp.cell_ro e) hx.out⟩ hn) ?_
  simp -implicitDefEqProofs (maxSteps := 1000000) only [go_sem, seval]
  rw [← idxL_ge _ ws 0 (by omega)]
def openV (ld th hd ot0 ot1 oh0 oh1 st0 st1 sp0 sp1 yi0 yi1 : Int) (bad : Bool) : Int := if boltB ld th hd ot0 ot1 oh0 oh1 st0 st1 sp0 sp1 yi0 yi1 then (if bad then 2 else 0) else 2
theorem openB (ro : Addr → Option Value) (ld th hd ot0 ot1 oh0 oh1 st0 st1 sp0 sp1 yi0 yi1 : Int) (b off n c : Nat) (ws : List Way) (hx : readV ro b off (n * 7) = some (ws.flatMap Way.cs)) (hnn : Hold (n < 2 ^ 63)) :
    Cr Try.prog 18 #[.agg #[.int .i64 ld, .int .i64 th, .int .i64 hd, .int .i64 ot0, .int .i64 ot1, .int .i64 oh0, .int .i64 oh1, .int .i64 st0, .int .i64 st1, .int .i64 sp0, .int .i64 sp1, .int .i64 yi0, .int .i64 yi1], .slice (some ⟨b, off, none⟩) n c] ro (.tuple #[.agg #[.int .i64 ld, .int .i64 th, .int .i64 hd, .int .i64 ot0, .int .i64 ot1, .int .i64 oh0, .int .i64 oh1, .int .i64 st0, .int .i64 st1, .int .i64 sp0, .int .i64 sp1, .int .i64 yi0, .int .i64 yi1], .int .i64 (openV ld th hd ot0 ot1 oh0 oh1 st0 st1 sp0 sp1 yi0 yi1 (ws.any fun w => !w.ok))]) := by
  replace hx := Hold.mk hx
  (refine Cr.of Try.func18 rfl rfl (fun F hF => ?_); simp only [Try.ntmps18, Try.results18, List.size_toArray, List.length_cons, List.length_nil, Nat.reduceAdd, Nat.reduceSub, Array.replicate_succ, Array.replicate_zero, List.push_toArray, List.append_toArray, List.nil_append, List.cons_append]; simp -implicitDefEqProofs (maxSteps := 1000000) only [go_sem, seval])
  subst hF
  try simp -implicitDefEqProofs (maxSteps := 1000000) only [go_sem, seval, *]
  repeat' (first | ((first | ((with_reducible refine NewK.intro fun g hg hn => ?_) <;> try simp only [own_none_iff] at hn) | ((with_reducible refine GuardB.split (fun hc => ?_) (fun hc => ?_)) <;> (have hc2 := hc; try simp only [beq_eq_false_iff_ne, beq_iff_eq, ne_eq, bne_iff_ne, bne_eq_false_iff_eq, decide_eq_true_eq, decide_eq_false_iff_not, Bool.not_true, Bool.not_false, Int.not_le, Int.not_lt] at hc2)) | ((with_reducible refine CondK.split (fun hc => ?_) (fun hc => ?_)) <;> (have hc2 := hc; try simp only [beq_eq_false_iff_ne, beq_iff_eq, ne_eq, bne_iff_ne, bne_eq_false_iff_eq, decide_eq_true_eq, decide_eq_false_iff_not, Bool.not_true, Bool.not_false, Int.not_le, Int.not_lt] at hc2)) | ((with_reducible refine PickK.split (fun hc => ?_) (fun hc => ?_)) <;> (have hc2 := hc; try simp only [beq_eq_false_iff_ne, beq_iff_eq, ne_eq, bne_iff_ne, bne_eq_false_iff_eq, decide_eq_true_eq, decide_eq_false_iff_not, Bool.not_true, Bool.not_false, Int.not_le, Int.not_lt] at hc2)) | (with_reducible refine dop_buildSlice ?_) | (with_reducible refine dop_build ?_) | ((with_reducible refine Cr.call (f := 39) (checkB _ _ _ _ _ _ _ _ _ _ _ _ _ _) ?_)) | (with_reducible refine CallV.of (f := 39) (checkB _ _ _ _ _ _ _ _ _ _ _ _ _ _) ni39 ?_) | ((with_reducible refine Cr.call (f := 40) (containsWays _ _ _ _ _ _ ⟨readV_mono (fun a u e => Hp.cell_ro e) hx.out⟩ hnn) ?_)) | (with_reducible refine CallV.of (f := 40) (containsWays _ _ _ _ _ _ ⟨readV_mono (fun a u e => Hp.cell_ro e) hx.out⟩ hnn) ni40 ?_) | ((with_reducible refine GuardD.split (fun hc => ?_) (fun hc => ?_)) <;> (have hc2 := hc; try simp only [beq_eq_false_iff_ne, beq_iff_eq, ne_eq, bne_iff_ne, bne_eq_false_iff_eq, decide_eq_true_eq, decide_eq_false_iff_not, Bool.not_true, Bool.not_false, Int.not_le, Int.not_lt] at hc2)) | (with_reducible refine stp_build ?_) | (with_reducible refine stp_buildSlice ?_) | (with_reducible refine stp_store ?_) | (with_reducible refine stp_ns ?_) | (with_reducible refine NsB.intro (fun h' ho K' hk => by simp -implicitDefEqProofs (maxSteps := 1000000) only [go_sem, seval, *] <;> exact hk) ?_) | (with_reducible refine WrB.intro _ (by simp -implicitDefEqProofs (maxSteps := 1000000) only [go_sem, seval, *]) (fun h' ho K' hk => by simp -implicitDefEqProofs (maxSteps := 1000000) only [go_sem, seval, *]; exact hk) (fun h' ho K' hk => by simp -implicitDefEqProofs (maxSteps := 1000000) only [go_sem, seval, *] at hk; exact hk) (fun h' ho hk => by simp -implicitDefEqProofs (maxSteps := 1000000) only [go_sem, seval, *] at hk <;> with_unfolding_all exact False.elim hk) ?_) | (with_reducible refine WrB.intro _ (by simp -implicitDefEqProofs (maxSteps := 1000000) only [go_sem, seval, *]) (fun h' ho K' hk => by simp -implicitDefEqProofs (maxSteps := 1000000) only [go_sem, seval, *]; exact hk) ?_) | ((with_reducible refine DDraw.auto mo ?_ ?_); kernel_rfl)) <;> simp -implicitDefEqProofs (maxSteps := 1000000) only [go_sem, seval, *]) | (with_reducible refine bi_same ?_))
  all_goals (simp_all [openV, checkV])
theorem open0B (ro : Addr → Option Value) (ld th hd ot0 ot1 oh0 oh1 st0 st1 sp0 sp1 yi0 yi1 : Int) :
    Cr Try.prog 18 #[.agg #[.int .i64 ld, .int .i64 th, .int .i64 hd, .int .i64 ot0, .int .i64 ot1, .int .i64 oh0, .int .i64 oh1, .int .i64 st0, .int .i64 st1, .int .i64 sp0, .int .i64 sp1, .int .i64 yi0, .int .i64 yi1], .slice none 0 0] ro (.tuple #[.agg #[.int .i64 ld, .int .i64 th, .int .i64 hd, .int .i64 ot0, .int .i64 ot1, .int .i64 oh0, .int .i64 oh1, .int .i64 st0, .int .i64 st1, .int .i64 sp0, .int .i64 sp1, .int .i64 yi0, .int .i64 yi1], .int .i64 (checkV ld th hd ot0 ot1 oh0 oh1 st0 st1 sp0 sp1 yi0 yi1)]) := by
  (refine Cr.of Try.func18 rfl rfl (fun F hF => ?_); simp only [Try.ntmps18, Try.results18, List.size_toArray, List.length_cons, List.length_nil, Nat.reduceAdd, Nat.reduceSub, Array.replicate_succ, Array.replicate_zero, List.push_toArray, List.append_toArray, List.nil_append, List.cons_append]; simp -implicitDefEqProofs (maxSteps := 1000000) only [go_sem, seval])
  subst hF
  try simp -implicitDefEqProofs (maxSteps := 1000000) only [go_sem, seval, *]
  repeat' (first | ((first | ((with_reducible refine NewK.intro fun g hg hn => ?_) <;> try simp only [own_none_iff] at hn) | ((with_reducible refine GuardB.split (fun hc => ?_) (fun hc => ?_)) <;> (have hc2 := hc; try simp only [beq_eq_false_iff_ne, beq_iff_eq, ne_eq, bne_iff_ne, bne_eq_false_iff_eq, decide_eq_true_eq, decide_eq_false_iff_not, Bool.not_true, Bool.not_false, Int.not_le, Int.not_lt] at hc2)) | ((with_reducible refine CondK.split (fun hc => ?_) (fun hc => ?_)) <;> (have hc2 := hc; try simp only [beq_eq_false_iff_ne, beq_iff_eq, ne_eq, bne_iff_ne, bne_eq_false_iff_eq, decide_eq_true_eq, decide_eq_false_iff_not, Bool.not_true, Bool.not_false, Int.not_le, Int.not_lt] at hc2)) | ((with_reducible refine PickK.split (fun hc => ?_) (fun hc => ?_)) <;> (have hc2 := hc; try simp only [beq_eq_false_iff_ne, beq_iff_eq, ne_eq, bne_iff_ne, bne_eq_false_iff_eq, decide_eq_true_eq, decide_eq_false_iff_not, Bool.not_true, Bool.not_false, Int.not_le, Int.not_lt] at hc2)) | (with_reducible refine dop_buildSlice ?_) | (with_reducible refine dop_build ?_) | ((with_reducible refine Cr.call (f := 39) (checkB _ _ _ _ _ _ _ _ _ _ _ _ _ _) ?_)) | (with_reducible refine CallV.of (f := 39) (checkB _ _ _ _ _ _ _ _ _ _ _ _ _ _) ni39 ?_) | ((with_reducible refine Cr.call (f := 40) (containsWay0_ok _) ?_)) | (with_reducible refine CallV.of (f := 40) (containsWay0_ok _) ni40 ?_) | ((with_reducible refine GuardD.split (fun hc => ?_) (fun hc => ?_)) <;> (have hc2 := hc; try simp only [beq_eq_false_iff_ne, beq_iff_eq, ne_eq, bne_iff_ne, bne_eq_false_iff_eq, decide_eq_true_eq, decide_eq_false_iff_not, Bool.not_true, Bool.not_false, Int.not_le, Int.not_lt] at hc2)) | (with_reducible refine stp_build ?_) | (with_reducible refine stp_buildSlice ?_) | (with_reducible refine stp_store ?_) | (with_reducible refine stp_ns ?_) | (with_reducible refine NsB.intro (fun h' ho K' hk => by simp -implicitDefEqProofs (maxSteps := 1000000) only [go_sem, seval, *] <;> exact hk) ?_) | (with_reducible refine WrB.intro _ (by simp -implicitDefEqProofs (maxSteps := 1000000) only [go_sem, seval, *]) (fun h' ho K' hk => by simp -implicitDefEqProofs (maxSteps := 1000000) only [go_sem, seval, *]; exact hk) (fun h' ho K' hk => by simp -implicitDefEqProofs (maxSteps := 1000000) only [go_sem, seval, *] at hk; exact hk) (fun h' ho hk => by simp -implicitDefEqProofs (maxSteps := 1000000) only [go_sem, seval, *] at hk <;> with_unfolding_all exact False.elim hk) ?_) | (with_reducible refine WrB.intro _ (by simp -implicitDefEqProofs (maxSteps := 1000000) only [go_sem, seval, *]) (fun h' ho K' hk => by simp -implicitDefEqProofs (maxSteps := 1000000) only [go_sem, seval, *]; exact hk) ?_) | ((with_reducible refine DDraw.auto mo ?_ ?_); kernel_rfl)) <;> simp -implicitDefEqProofs (maxSteps := 1000000) only [go_sem, seval, *]) | (with_reducible refine bi_same ?_))
  all_goals (simp_all [checkV])
theorem open1B (ro : Addr → Option Value) (ld th hd ot0 ot1 oh0 oh1 st0 st1 sp0 sp1 yi0 yi1 : Int) (g c : Nat) (k t0 t1 a0 a1 s0 s1 : Int) (hx : readV ro g 0 7 = some [.int .i64 k, .int .i64 t0, .int .i64 t1, .int .i64 a0, .int .i64 a1, .int .i64 s0, .int .i64 s1]) :
    Cr Try.prog 18 #[.agg #[.int .i64 ld, .int .i64 th, .int .i64 hd, .int .i64 ot0, .int .i64 ot1, .int .i64 oh0, .int .i64 oh1, .int .i64 st0, .int .i64 st1, .int .i64 sp0, .int .i64 sp1, .int .i64 yi0, .int .i64 yi1], .slice (some ⟨g, 0, none⟩) 1 c] ro (.tuple #[.agg #[.int .i64 ld, .int .i64 th, .int .i64 hd, .int .i64 ot0, .int .i64 ot1, .int .i64 oh0, .int .i64 oh1, .int .i64 st0, .int .i64 st1, .int .i64 sp0, .int .i64 sp1, .int .i64 yi0, .int .i64 yi1], .int .i64 (openV ld th hd ot0 ot1 oh0 oh1 st0 st1 sp0 sp1 yi0 yi1 (!(wayB k t0 t1 a0 a1 s0 s1)))]) := by
  have := openB ro ld th hd ot0 ot1 oh0 oh1 st0 st1 sp0 sp1 yi0 yi1 g 0 1 c [⟨k, t0, t1, a0, a1, s0, s1⟩] (by simpa [Way.cs] using hx) ⟨by decide⟩
  simpa [Way.ok] using this

end Go.Proofs.Ytlblahfndlgfmaa
