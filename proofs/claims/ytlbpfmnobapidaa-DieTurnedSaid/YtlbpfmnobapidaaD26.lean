/-
  Walks. Conditions: none.
-/
import Derived.Test.YtlbpfmnobapidaaD25
set_option linter.unusedVariables false
set_option linter.unusedSimpArgs false
namespace Go.Proofs.Ytlbpfmnobapidaa
open Go.RowKit Go.SL
set_option maxHeartbeats 1000000
set_option maxRecDepth 1000000
attribute [local go_sem] fl_getD fl_get fl_set lk_def st_def gL_nil gL_zero gL_succ sL_nil_zero sL_nil_succ sL_zero sL_succ Option.getD_none FgK_app onlyL_nil onlyL_none onlyL_some setO_some toB_bool toB_undef yl_def
attribute [local go_sem high] GuardK_yl GuardL_yl
attribute [local go_sem] initL_one initL_cons lastL_one lastL_cons LastK_app fin_round Fr.inr_w0 Fr.inr_ro Fr.inr_M cell_inr LoopO_some YieldK_some RoundQ_normal RoundQ_ret RoundQ_exit EndR_none EndR_some BegK_app BegR_some OutR_none OutR_ret OutR_exit LeftR_some LeftK_app
attribute [local go_sem] i64w
attribute [local go_sem] dwp_eqGuardE dwp_eqGuardN rval_eqGuardE rval_eqGuardN
attribute [local go_sem] add_none
def u8C (w : Int × Int) : List Value := [.int .u8 w.1, .int .u8 w.2]
theorem u8C_len (w : Int × Int) : (u8C w).length = 2 := rfl
/-- A byte. -/
def Byte (x : Int) : Prop := 0 ≤ x ∧ x < 256
/-- The wears of a tool, of pairs of bytes. -/
def wF (w : Int × Int) : Int × Int := (w.1 % 20, w.1 % 20 + w.2 % 20)
def toolN (wl : List (Int × Int)) : Nat := max 1 (min 3 wl.length)
def toolW (wl : List (Int × Int)) (n : Nat) : List (Int × Int) := (List.range n).map fun i => wF (wl.getD i (0, 0))
theorem toolW_succ (wl : List (Int × Int)) (n : Nat) : toolW wl (n + 1) = toolW wl n ++ [wF (wl.getD n (0, 0))] := by
  unfold toolW
  rw [List.range_succ, List.map_append]
  rfl
theorem toolW_len (wl : List (Int × Int)) (n : Nat) : (toolW wl n).length = n := by simp [toolW]
theorem one_sp (x y : Int) : ∀ z ∈ [Value.int .i64 x, Value.int .i64 y], notAgg z = true := by
  intro z hz
  simp only [List.mem_cons, List.not_mem_nil, or_false] at hz
  rcases hz with rfl | rfl <;> rfl
def ITo (g1 g2 g3 : Nat) (dn : Bool) (a0 a1 : Int) (pW : Option Addr) (nW cW : Nat) (pO : Option Addr) (nO cO : Nat) (pT : Option Addr) (nT cT : Nat) (m : Nat) (wl : List (Int × Int)) (F : Fr) (h0 : Hp) (k' : Nat) (a : Act) (h : Hp) : Prop :=
  ∃ (i : Nat) (v : Value) (x : Nat → Value), Hold (i + k' = m) ∧ Hold (∀ y o, h0.own y = some o → h.own y = some o) ∧ h.own g1 = some (.cells #[.bool dn, .int .u8 a0, .int .u8 a1, .slice pW nW cW, .slice pO nO cO, .slice pT nT cT] 79) ∧ h.own g2 = some (.cells #[.bool false, .int .i64 0, .int .i64 0, .int .i64 0, .int .i64 0, .slice none 0 0] 26) ∧ h.own g3 = some (.cells #[.bool dn, .int .i64 (-(a0 % 20)), .int .i64 (a0 / 16), .int .i64 (-(a1 % 10)), .int .i64 (a1 / 32), v] 26) ∧ Hold (Own F h 23 2 v i ((toolW wl i).flatMap spC)) ∧ Hold (∀ x, blk v = some x → h0.own x = none ∧ x ≠ g1 ∧ x ≠ g2 ∧ x ≠ g3) ∧ Hold (i = 0 → v = .slice none 0 0) ∧ a = ⟨fl 79 x [[none, some (.pointer (some ⟨g1, 0, none⟩)), some (.pointer (some ⟨g2, 0, none⟩)), some (.pointer (some ⟨g3, 0, none⟩)), some (.int .i64 i)]], []⟩
set_option maxHeartbeats 8000000 in
theorem stool_S (F : Fr) (h0 : Hp) (K : Value → Hp → Prop) (dn : Bool) (a0 a1 : Int) (pW : Option Addr) (nW cW : Nat) (pO : Option Addr) (nO cO : Nat) (pT : Option Addr) (nT cT : Nat) (wl : List (Int × Int)) (hx : Hold (RdS F.ro pW nW 2 (wl.flatMap u8C))) (hB : Hold (∀ w ∈ wl, Byte w.1 ∧ Byte w.2)) (hA : Hold (Byte a0 ∧ Byte a1)) (hn0 : Hold (nW ≤ 9223372036854775807))
    (hK : Hold (∀ g c h', (∀ y o, h0.own y = some o → h'.own y = some o) → h0.own g = none → Own F h' 23 2 (.slice (some ⟨g, 0, none⟩) (toolN wl) c) (toolN wl) ((toolW wl (toolN wl)).flatMap spC) → K (.agg #[.bool dn, .int .i64 (-(a0 % 20)), .int .i64 (a0 / 16), .int .i64 (-(a1 % 10)), .int .i64 (a1 / 32), .slice (some ⟨g, 0, none⟩) (toolN wl) c]) h')) :
    DCall Try.prog F 48 #[.agg #[.bool dn, .int .u8 a0, .int .u8 a1, .slice pW nW cW, .slice pO nO cO, .slice pT nT cT]] h0 K := by
  have hlen := Hold.mk (hx.out.count u8C_len (by decide))
  have hA0 := hA.out.1
  have hA1 := hA.out.2
  unfold Byte at hA0 hA1
  have w0 : IntKind.i64.wrap a0 = a0 := IntWalk.i64_in _ (by omega)
  have w1 : IntKind.i64.wrap a1 = a1 := IntWalk.i64_in _ (by omega)
  have w2 : IntKind.i64.wrap (0 - a0) = -a0 := by rw [IntWalk.i64_in _ (by omega)]; omega
  have w3 : IntKind.i64.wrap (0 - a1) = -a1 := by rw [IntWalk.i64_in _ (by omega)]; omega
  have t0 : (-a0).tmod 20 = -(a0 % 20) := by rw [Int.neg_tmod, Int.tmod_eq_emod_of_nonneg hA0.1]
  have t1 : (-a1).tmod 10 = -(a1 % 10) := by rw [Int.neg_tmod, Int.tmod_eq_emod_of_nonneg hA1.1]
  have t2 : a0.tdiv 16 = a0 / 16 := Int.tdiv_eq_ediv_of_nonneg hA0.1
  have t3 : a1.tdiv 32 = a1 / 32 := Int.tdiv_eq_ediv_of_nonneg hA1.1
  have w4 : IntKind.i64.wrap (a0 / 16) = a0 / 16 := IntWalk.i64_in _ (by omega)
  have w5 : IntKind.i64.wrap (a1 / 32) = a1 / 32 := IntWalk.i64_in _ (by omega)
  clear hA0 hA1
  (refine DCall.inlP (l := _) Try.func48 Try.ntmps48 rfl rfl (by simp only [seval, List.length_cons, List.length_nil]) (by simp only [seval, List.length_cons, List.length_nil]) ?_; simp only [Try.results48, List.map_cons, List.map_nil])
  repeat' (first | (with_reducible refine at_seq (by with_unfolding_all exact rfl) ?_) | ((with_reducible first | refine at_plain (by with_unfolding_all exact rfl) ?_ | refine at_draw (by with_unfolding_all exact rfl) ?_ | refine at_cond (by with_unfolding_all exact rfl) ?_ | refine at_exit (by with_unfolding_all exact rfl) ?_ | refine at_ret (by with_unfolding_all exact rfl) ?_ | refine at_skip (by with_unfolding_all exact rfl) ?_ | refine at_label (by with_unfolding_all exact rfl) ?_) <;> try simp -implicitDefEqProofs (maxSteps := 1000000) only [go_sem, seval, *]) | (with_reducible first | refine at_block (by with_unfolding_all exact rfl) ?_ | refine at_loop (by with_unfolding_all exact rfl) ?_) | ((first | ((with_reducible refine NewK.intro fun g hg hn => ?_) <;> try simp only [own_none_iff] at hn) | ((with_reducible first | refine GuardB.split (fun hc => ?_) (fun hc => ?_) | refine CondK.split (fun hc => ?_) (fun hc => ?_) | refine PickK.split (fun hc => ?_) (fun hc => ?_) | refine GuardD.split (fun hc => ?_) (fun hc => ?_)) <;> (have hc2 := hc; try simp only [beq_eq_false_iff_ne, beq_iff_eq, ne_eq, bne_iff_ne, bne_eq_false_iff_eq, decide_eq_true_eq, decide_eq_false_iff_not, Bool.not_true, Bool.not_false, Int.not_le, Int.not_lt] at hc2)) | (with_reducible first | refine dop_buildSlice ?_ | refine dop_build ?_) | ((with_reducible refine Cr.call (f := 44) (lspan_ok _ _ _) ?_)) | (with_reducible refine CallV.of (f := 44) (lspan_ok _ _ _) ni44 ?_) | ((with_reducible refine DDraw.told (id := 1) [] [] mo ?_ ?_); kernel_rfl) | ((with_reducible refine DDraw.told (id := 8) [1] [.tmp 3] mo ?_ ?_); kernel_rfl) | (with_reducible first | refine stp_build ?_ | refine stp_buildSlice ?_ | refine stp_store ?_ | refine stp_ns ?_) | (with_reducible refine NsB.intro (fun h' ho K' hk => by simp -implicitDefEqProofs (maxSteps := 1000000) only [go_sem, seval, *] <;> exact hk) ?_) | (with_reducible refine WrB.intro _ (by simp -implicitDefEqProofs (maxSteps := 1000000) only [go_sem, seval, *]) (fun h' ho K' hk => by simp -implicitDefEqProofs (maxSteps := 1000000) only [go_sem, seval, *]; exact hk) (fun h' ho K' hk => by simp -implicitDefEqProofs (maxSteps := 1000000) only [go_sem, seval, *] at hk; exact hk) (fun h' ho hk => by simp -implicitDefEqProofs (maxSteps := 1000000) only [go_sem, seval, *] at hk <;> with_unfolding_all exact False.elim hk) ?_) | (with_reducible refine WrB.intro _ (by simp -implicitDefEqProofs (maxSteps := 1000000) only [go_sem, seval, *]) (fun h' ho K' hk => by simp -implicitDefEqProofs (maxSteps := 1000000) only [go_sem, seval, *]; exact hk) ?_) | ((with_reducible refine DDraw.auto mo ?_ ?_); kernel_rfl)) <;> simp -implicitDefEqProofs (maxSteps := 1000000) only [go_sem, seval, *]) | (with_reducible refine bi_same ?_))
  rename_i g1 hg1 hn1 g2 hg2 hn2
  generalize hgg : g = g3 at *
  clear hgg
  have m1 := hn2.2.2
  have m2 := hn.2.2.2.2
  have n12 : g2 ≠ g1 ∧ g1 ≠ g2 := ⟨hn2.1, hn2.2.1⟩
  have n23 : g3 ≠ g2 ∧ g2 ≠ g3 := ⟨hn.1, hn.2.1⟩
  have n13 : g3 ≠ g1 ∧ g1 ≠ g3 := ⟨hn.2.2.1, hn.2.2.2.1⟩
  have mb : 1 ≤ toolN wl ∧ toolN wl ≤ 3 := by unfold toolN; omega
  have mbH := Hold.mk mb
  refine DLoop.ind (ITo g1 g2 g3 dn a0 a1 pW nW cW pO nO cO pT nT cT (toolN wl) wl F h0) (toolN wl) ⟨0, .slice none 0 0, _, ⟨by omega⟩, ⟨subS (subS (subS sub_refl hn1) m1) m2⟩, (by simp -implicitDefEqProofs (maxSteps := 1000000) only [go_sem, seval, *]), (by simp -implicitDefEqProofs (maxSteps := 1000000) only [go_sem, seval, *]), (by simp -implicitDefEqProofs (maxSteps := 1000000) only [go_sem, seval, *]), ⟨Own.nil⟩, ⟨fun x e => by cases e⟩, ⟨fun _ => rfl⟩, fl_re (by kernel_rfl)⟩ ?_
  clear hn hn2 mb
  (rintro k' a h ⟨i, v, x, fa0, fa1, fa2, fa3, fa4, fa5, fa6, fa7, rfl⟩)
  have hj := fa0.out
  have mb := mbH.out
  have hln := hlen.out
  have nb := hn0.out
  have u1 := own_ne fa2
  have u2 := own_ne fa3
  have u3 := own_ne fa4
  have z0 : IntKind.i64.wrap ((i : Int) + 1) = ((i + 1 : Nat) : Int) := by rw [IntWalk.i64_in _ (by omega)]; push_cast; rfl
  by_cases hi0 : i = 0
  · have hv := fa7.out hi0
    subst hv
    have e0 : ((i : Int) == 0) = true := by simp; omega
    have il : Hold (i + 1 ≤ 3 ∧ i + 1 ≤ toolN wl) := ⟨by omega⟩
    by_cases hw : 0 < nW
    · have i1 : ((i : Int) < (nW : Int)) = True := by simp only [eq_iff_iff, iff_true]; omega
      have i0 : (0 : Int) ≤ (i : Int) := by omega
      have hxi : wl[i]? = some wl[i] := List.getElem?_eq_getElem (by omega)
      obtain ⟨b, off, rfl, hro⟩ := hx.out.at u8C_len (show i < nW by omega) hxi
      have r0 := hro 0 _ rfl
      have r1 := hro 1 _ rfl
      rw [Nat.add_zero] at r0
      have wb := hB.out wl[i] (List.getElem_mem _)
      have wg : wl.getD i (0, 0) = wl[i] := by rw [List.getD_eq_getElem?_getD, hxi]; rfl
      generalize wl[i] = w at *
      unfold Byte at wb
      have q0 : IntKind.i64.wrap w.1 = w.1 := IntWalk.i64_in _ (by omega)
      have q1 : IntKind.i64.wrap w.2 = w.2 := IntWalk.i64_in _ (by omega)
      have q2 : w.1.tmod 20 = w.1 % 20 := Int.tmod_eq_emod_of_nonneg wb.1.1
      have q3 : w.2.tmod 20 = w.2 % 20 := Int.tmod_eq_emod_of_nonneg wb.2.1
      have q4 : IntKind.i64.wrap (w.1 % 20 + w.2 % 20) = w.1 % 20 + w.2 % 20 := IntWalk.i64_in _ (by omega)
      clear hi0 hw hro hxi wb hj mb hln nb
      repeat' (first | (with_reducible refine at_seq (by with_unfolding_all exact rfl) ?_) | ((with_reducible first | refine at_plain (by with_unfolding_all exact rfl) ?_ | refine at_draw (by with_unfolding_all exact rfl) ?_ | refine at_cond (by with_unfolding_all exact rfl) ?_ | refine at_exit (by with_unfolding_all exact rfl) ?_ | refine at_ret (by with_unfolding_all exact rfl) ?_ | refine at_skip (by with_unfolding_all exact rfl) ?_ | refine at_label (by with_unfolding_all exact rfl) ?_) <;> try simp -implicitDefEqProofs (maxSteps := 1000000) only [go_sem, seval, *]) | (with_reducible first | refine at_block (by with_unfolding_all exact rfl) ?_ | refine at_loop (by with_unfolding_all exact rfl) ?_) | ((first | ((with_reducible refine DDraw.lasts (id := 8) [] [] mo ?_ ?_); kernel_rfl) | ((with_reducible refine NewK.intro fun g hg hn => ?_) <;> try simp only [own_none_iff] at hn) | ((with_reducible first | refine GuardB.split (fun hc => ?_) (fun hc => ?_) | refine CondK.split (fun hc => ?_) (fun hc => ?_) | refine PickK.split (fun hc => ?_) (fun hc => ?_) | refine GuardD.split (fun hc => ?_) (fun hc => ?_)) <;> (have hc2 := hc; try simp only [beq_eq_false_iff_ne, beq_iff_eq, ne_eq, bne_iff_ne, bne_eq_false_iff_eq, decide_eq_true_eq, decide_eq_false_iff_not, Bool.not_true, Bool.not_false, Int.not_le, Int.not_lt] at hc2)) | (with_reducible first | refine dop_buildSlice ?_ | refine dop_build ?_) | ((with_reducible refine Cr.call (f := 44) (lspan_ok _ _ _) ?_)) | (with_reducible refine CallV.of (f := 44) (lspan_ok _ _ _) ni44 ?_) | ((with_reducible refine DDraw.told (id := 1) [] [] mo ?_ ?_); kernel_rfl) | ((with_reducible refine DDraw.told (id := 8) [1] [.tmp 3] mo ?_ ?_); kernel_rfl) | (with_reducible first | refine stp_build ?_ | refine stp_buildSlice ?_ | refine stp_store ?_ | refine stp_ns ?_) | (with_reducible refine NsB.intro (fun h' ho K' hk => by simp -implicitDefEqProofs (maxSteps := 1000000) only [go_sem, seval, *] <;> exact hk) ?_) | (with_reducible refine WrB.intro _ (by simp -implicitDefEqProofs (maxSteps := 1000000) only [go_sem, seval, *]) (fun h' ho K' hk => by simp -implicitDefEqProofs (maxSteps := 1000000) only [go_sem, seval, *]; exact hk) (fun h' ho K' hk => by simp -implicitDefEqProofs (maxSteps := 1000000) only [go_sem, seval, *] at hk; exact hk) (fun h' ho hk => by simp -implicitDefEqProofs (maxSteps := 1000000) only [go_sem, seval, *] at hk <;> with_unfolding_all exact False.elim hk) ?_) | (with_reducible refine WrB.intro _ (by simp -implicitDefEqProofs (maxSteps := 1000000) only [go_sem, seval, *]) (fun h' ho K' hk => by simp -implicitDefEqProofs (maxSteps := 1000000) only [go_sem, seval, *]; exact hk) ?_) | ((with_reducible refine DDraw.auto mo ?_ ?_); kernel_rfl)) <;> simp -implicitDefEqProofs (maxSteps := 1000000) only [go_sem, seval, *]) | (with_reducible refine bi_same ?_))
      rename_i g5 hg5 hn5
      have gl := hn.2.2
      refine AppD.draw Try.underlying24 inf_span (by decide) (by decide) (fa5.out.kept fun b ob e1 e2 => by cases e1) (ys := [.int .i64 (w.1 % 20), .int .i64 (w.1 % 20 + w.2 % 20)]) (by simp -implicitDefEqProofs (maxSteps := 1000000) only [go_sem, seval, *]) (one_sp _ _) (by have := il.out; omega) (fun b e => by cases e) fun u gA obA hA bA r1 => ?_
      have nA : gA ≠ g ∧ gA ≠ g5 ∧ gA ≠ g1 ∧ gA ≠ g2 ∧ gA ≠ g3 ∧ h0.own gA = none := by
        rcases hA with e | ⟨e, _⟩
        · cases e
        · simp only [own_none_iff] at e
          have e2 := e.2.2.2.2
          exact ⟨e.1, e.2.2.1, (u1 gA e2).2, (u2 gA e2).2, (u3 gA e2).2, kept_none fa1.out e2⟩
      have y1 := neG nA.1
      have y2 := neG nA.2.1
      have y3 := neG nA.2.2.1
      have y4 := neG nA.2.2.2.1
      have y5 := neG nA.2.2.2.2.1
      obtain ⟨pu, cu, rfl⟩ := r1.len
      have r1' := Hold.mk r1
      have fa5H := fa5
      clear r1 hA fa5
      simp -implicitDefEqProofs (maxSteps := 1000000) only [go_sem, seval, *]
      repeat' (first | (with_reducible refine at_seq (by with_unfolding_all exact rfl) ?_) | ((with_reducible first | refine at_plain (by with_unfolding_all exact rfl) ?_ | refine at_draw (by with_unfolding_all exact rfl) ?_ | refine at_cond (by with_unfolding_all exact rfl) ?_ | refine at_exit (by with_unfolding_all exact rfl) ?_ | refine at_ret (by with_unfolding_all exact rfl) ?_ | refine at_skip (by with_unfolding_all exact rfl) ?_ | refine at_label (by with_unfolding_all exact rfl) ?_) <;> try simp -implicitDefEqProofs (maxSteps := 1000000) only [go_sem, seval, *]) | (with_reducible first | refine at_block (by with_unfolding_all exact rfl) ?_ | refine at_loop (by with_unfolding_all exact rfl) ?_) | ((first | ((with_reducible refine NewK.intro fun g hg hn => ?_) <;> try simp only [own_none_iff] at hn) | ((with_reducible first | refine GuardB.split (fun hc => ?_) (fun hc => ?_) | refine CondK.split (fun hc => ?_) (fun hc => ?_) | refine PickK.split (fun hc => ?_) (fun hc => ?_) | refine GuardD.split (fun hc => ?_) (fun hc => ?_)) <;> (have hc2 := hc; try simp only [beq_eq_false_iff_ne, beq_iff_eq, ne_eq, bne_iff_ne, bne_eq_false_iff_eq, decide_eq_true_eq, decide_eq_false_iff_not, Bool.not_true, Bool.not_false, Int.not_le, Int.not_lt] at hc2)) | (with_reducible first | refine dop_buildSlice ?_ | refine dop_build ?_) | ((with_reducible refine DDraw.told (id := 1) [] [] mo ?_ ?_); kernel_rfl) | ((with_reducible refine DDraw.told (id := 8) [1] [.tmp 3] mo ?_ ?_); kernel_rfl) | (with_reducible first | refine stp_build ?_ | refine stp_buildSlice ?_ | refine stp_store ?_ | refine stp_ns ?_) | (with_reducible refine NsB.intro (fun h' ho K' hk => by simp -implicitDefEqProofs (maxSteps := 1000000) only [go_sem, seval, *] <;> exact hk) ?_) | (with_reducible refine WrB.intro _ (by simp -implicitDefEqProofs (maxSteps := 1000000) only [go_sem, seval, *]) (fun h' ho K' hk => by simp -implicitDefEqProofs (maxSteps := 1000000) only [go_sem, seval, *]; exact hk) (fun h' ho K' hk => by simp -implicitDefEqProofs (maxSteps := 1000000) only [go_sem, seval, *] at hk; exact hk) (fun h' ho hk => by simp -implicitDefEqProofs (maxSteps := 1000000) only [go_sem, seval, *] at hk <;> with_unfolding_all exact False.elim hk) ?_) | (with_reducible refine WrB.intro _ (by simp -implicitDefEqProofs (maxSteps := 1000000) only [go_sem, seval, *]) (fun h' ho K' hk => by simp -implicitDefEqProofs (maxSteps := 1000000) only [go_sem, seval, *]; exact hk) ?_) | ((with_reducible refine DDraw.auto mo ?_ ?_); kernel_rfl)) <;> simp -implicitDefEqProofs (maxSteps := 1000000) only [go_sem, seval, *]) | (with_reducible refine bi_same ?_))
      have il := il.out
      have hj := fa0.out
      refine LoopK.intro (k' - 1) (by omega) ⟨i + 1, .slice pu (i + 1) cu, _, ⟨by omega⟩, ⟨subS (subS (subS (subS fa1.out (kept_none fa1.out hn5)) (kept_none fa1.out gl)) nA.2.2.2.2.2) m2⟩, (by simp -implicitDefEqProofs (maxSteps := 1000000) only [go_sem, seval, *]), (by simp -implicitDefEqProofs (maxSteps := 1000000) only [go_sem, seval, *]), (by simp -implicitDefEqProofs (maxSteps := 1000000) only [go_sem, seval, *]), ⟨by rw [toolW_succ, List.flatMap_append, wg]; exact Own.at_ (gA := gA) r1'.out bA (by simp -implicitDefEqProofs (maxSteps := 1000000) only [go_sem, seval, *])⟩, ⟨fun x e => by rw [bA] at e; cases e; exact ⟨nA.2.2.2.2.2, nA.2.2.1, nA.2.2.2.1, nA.2.2.2.2.1⟩⟩, ⟨fun e => by omega⟩, fl_re (by kernel_rfl)⟩
    · have i1 : ((i : Int) < (nW : Int)) = False := by simp only [eq_iff_iff, iff_false]; omega
      have wg : wl.getD i (0, 0) = (0, 0) := by
        have : wl = [] := List.eq_nil_of_length_eq_zero (by omega)
        rw [this]; rfl
      have q2 : (0 : Int).tmod 20 = 0 := rfl
      clear hj mb hln nb hi0 hw
      repeat' (first | (with_reducible refine at_seq (by with_unfolding_all exact rfl) ?_) | ((with_reducible first | refine at_plain (by with_unfolding_all exact rfl) ?_ | refine at_draw (by with_unfolding_all exact rfl) ?_ | refine at_cond (by with_unfolding_all exact rfl) ?_ | refine at_exit (by with_unfolding_all exact rfl) ?_ | refine at_ret (by with_unfolding_all exact rfl) ?_ | refine at_skip (by with_unfolding_all exact rfl) ?_ | refine at_label (by with_unfolding_all exact rfl) ?_) <;> try simp -implicitDefEqProofs (maxSteps := 1000000) only [go_sem, seval, *]) | (with_reducible first | refine at_block (by with_unfolding_all exact rfl) ?_ | refine at_loop (by with_unfolding_all exact rfl) ?_) | ((first | ((with_reducible refine DDraw.lasts (id := 8) [] [] mo ?_ ?_); kernel_rfl) | ((with_reducible refine NewK.intro fun g hg hn => ?_) <;> try simp only [own_none_iff] at hn) | ((with_reducible first | refine GuardB.split (fun hc => ?_) (fun hc => ?_) | refine CondK.split (fun hc => ?_) (fun hc => ?_) | refine PickK.split (fun hc => ?_) (fun hc => ?_) | refine GuardD.split (fun hc => ?_) (fun hc => ?_)) <;> (have hc2 := hc; try simp only [beq_eq_false_iff_ne, beq_iff_eq, ne_eq, bne_iff_ne, bne_eq_false_iff_eq, decide_eq_true_eq, decide_eq_false_iff_not, Bool.not_true, Bool.not_false, Int.not_le, Int.not_lt] at hc2)) | (with_reducible first | refine dop_buildSlice ?_ | refine dop_build ?_) | ((with_reducible refine Cr.call (f := 44) (lspan_ok _ _ _) ?_)) | (with_reducible refine CallV.of (f := 44) (lspan_ok _ _ _) ni44 ?_) | ((with_reducible refine DDraw.told (id := 1) [] [] mo ?_ ?_); kernel_rfl) | ((with_reducible refine DDraw.told (id := 8) [1] [.tmp 3] mo ?_ ?_); kernel_rfl) | (with_reducible first | refine stp_build ?_ | refine stp_buildSlice ?_ | refine stp_store ?_ | refine stp_ns ?_) | (with_reducible refine NsB.intro (fun h' ho K' hk => by simp -implicitDefEqProofs (maxSteps := 1000000) only [go_sem, seval, *] <;> exact hk) ?_) | (with_reducible refine WrB.intro _ (by simp -implicitDefEqProofs (maxSteps := 1000000) only [go_sem, seval, *]) (fun h' ho K' hk => by simp -implicitDefEqProofs (maxSteps := 1000000) only [go_sem, seval, *]; exact hk) (fun h' ho K' hk => by simp -implicitDefEqProofs (maxSteps := 1000000) only [go_sem, seval, *] at hk; exact hk) (fun h' ho hk => by simp -implicitDefEqProofs (maxSteps := 1000000) only [go_sem, seval, *] at hk <;> with_unfolding_all exact False.elim hk) ?_) | (with_reducible refine WrB.intro _ (by simp -implicitDefEqProofs (maxSteps := 1000000) only [go_sem, seval, *]) (fun h' ho K' hk => by simp -implicitDefEqProofs (maxSteps := 1000000) only [go_sem, seval, *]; exact hk) ?_) | ((with_reducible refine DDraw.auto mo ?_ ?_); kernel_rfl)) <;> simp -implicitDefEqProofs (maxSteps := 1000000) only [go_sem, seval, *]) | (with_reducible refine bi_same ?_))
      rename_i g5 hg5 hn5
      have gl := hn.2.2
      refine AppD.draw Try.underlying24 inf_span (by decide) (by decide) (fa5.out.kept fun b ob e1 e2 => by cases e1) (ys := [.int .i64 (0), .int .i64 (0)]) (by simp -implicitDefEqProofs (maxSteps := 1000000) only [go_sem, seval, *]) (one_sp _ _) (by have := il.out; omega) (fun b e => by cases e) fun u gA obA hA bA r1 => ?_
      have nA : gA ≠ g ∧ gA ≠ g5 ∧ gA ≠ g1 ∧ gA ≠ g2 ∧ gA ≠ g3 ∧ h0.own gA = none := by
        rcases hA with e | ⟨e, _⟩
        · cases e
        · simp only [own_none_iff] at e
          have e2 := e.2.2.2.2
          exact ⟨e.1, e.2.2.1, (u1 gA e2).2, (u2 gA e2).2, (u3 gA e2).2, kept_none fa1.out e2⟩
      have y1 := neG nA.1
      have y2 := neG nA.2.1
      have y3 := neG nA.2.2.1
      have y4 := neG nA.2.2.2.1
      have y5 := neG nA.2.2.2.2.1
      obtain ⟨pu, cu, rfl⟩ := r1.len
      have r1' := Hold.mk r1
      have fa5H := fa5
      clear r1 hA fa5
      simp -implicitDefEqProofs (maxSteps := 1000000) only [go_sem, seval, *]
      repeat' (first | (with_reducible refine at_seq (by with_unfolding_all exact rfl) ?_) | ((with_reducible first | refine at_plain (by with_unfolding_all exact rfl) ?_ | refine at_draw (by with_unfolding_all exact rfl) ?_ | refine at_cond (by with_unfolding_all exact rfl) ?_ | refine at_exit (by with_unfolding_all exact rfl) ?_ | refine at_ret (by with_unfolding_all exact rfl) ?_ | refine at_skip (by with_unfolding_all exact rfl) ?_ | refine at_label (by with_unfolding_all exact rfl) ?_) <;> try simp -implicitDefEqProofs (maxSteps := 1000000) only [go_sem, seval, *]) | (with_reducible first | refine at_block (by with_unfolding_all exact rfl) ?_ | refine at_loop (by with_unfolding_all exact rfl) ?_) | ((first | ((with_reducible refine NewK.intro fun g hg hn => ?_) <;> try simp only [own_none_iff] at hn) | ((with_reducible first | refine GuardB.split (fun hc => ?_) (fun hc => ?_) | refine CondK.split (fun hc => ?_) (fun hc => ?_) | refine PickK.split (fun hc => ?_) (fun hc => ?_) | refine GuardD.split (fun hc => ?_) (fun hc => ?_)) <;> (have hc2 := hc; try simp only [beq_eq_false_iff_ne, beq_iff_eq, ne_eq, bne_iff_ne, bne_eq_false_iff_eq, decide_eq_true_eq, decide_eq_false_iff_not, Bool.not_true, Bool.not_false, Int.not_le, Int.not_lt] at hc2)) | (with_reducible first | refine dop_buildSlice ?_ | refine dop_build ?_) | ((with_reducible refine DDraw.told (id := 1) [] [] mo ?_ ?_); kernel_rfl) | ((with_reducible refine DDraw.told (id := 8) [1] [.tmp 3] mo ?_ ?_); kernel_rfl) | (with_reducible first | refine stp_build ?_ | refine stp_buildSlice ?_ | refine stp_store ?_ | refine stp_ns ?_) | (with_reducible refine NsB.intro (fun h' ho K' hk => by simp -implicitDefEqProofs (maxSteps := 1000000) only [go_sem, seval, *] <;> exact hk) ?_) | (with_reducible refine WrB.intro _ (by simp -implicitDefEqProofs (maxSteps := 1000000) only [go_sem, seval, *]) (fun h' ho K' hk => by simp -implicitDefEqProofs (maxSteps := 1000000) only [go_sem, seval, *]; exact hk) (fun h' ho K' hk => by simp -implicitDefEqProofs (maxSteps := 1000000) only [go_sem, seval, *] at hk; exact hk) (fun h' ho hk => by simp -implicitDefEqProofs (maxSteps := 1000000) only [go_sem, seval, *] at hk <;> with_unfolding_all exact False.elim hk) ?_) | (with_reducible refine WrB.intro _ (by simp -implicitDefEqProofs (maxSteps := 1000000) only [go_sem, seval, *]) (fun h' ho K' hk => by simp -implicitDefEqProofs (maxSteps := 1000000) only [go_sem, seval, *]; exact hk) ?_) | ((with_reducible refine DDraw.auto mo ?_ ?_); kernel_rfl)) <;> simp -implicitDefEqProofs (maxSteps := 1000000) only [go_sem, seval, *]) | (with_reducible refine bi_same ?_))
      have il := il.out
      have hj := fa0.out
      refine LoopK.intro (k' - 1) (by omega) ⟨i + 1, .slice pu (i + 1) cu, _, ⟨by omega⟩, ⟨subS (subS (subS (subS fa1.out (kept_none fa1.out hn5)) (kept_none fa1.out gl)) nA.2.2.2.2.2) m2⟩, (by simp -implicitDefEqProofs (maxSteps := 1000000) only [go_sem, seval, *]), (by simp -implicitDefEqProofs (maxSteps := 1000000) only [go_sem, seval, *]), (by simp -implicitDefEqProofs (maxSteps := 1000000) only [go_sem, seval, *]), ⟨by rw [toolW_succ, List.flatMap_append, wg]; exact Own.at_ (gA := gA) r1'.out bA (by simp -implicitDefEqProofs (maxSteps := 1000000) only [go_sem, seval, *])⟩, ⟨fun x e => by rw [bA] at e; cases e; exact ⟨nA.2.2.2.2.2, nA.2.2.1, nA.2.2.2.1, nA.2.2.2.2.1⟩⟩, ⟨fun e => by omega⟩, fl_re (by kernel_rfl)⟩
  · have e0 : ((i : Int) == 0) = false := by simp; omega
    obtain ⟨gv, cv, rfl, rdv⟩ := fa5.out.some (by omega)
    obtain ⟨obv, hov⟩ := fa5.out.owned gv rfl
    have u4 := own_ne hov
    have bv := fa6.out gv rfl
    have yv1 := neG bv.2.1
    have yv2 := neG bv.2.2.1
    have yv3 := neG bv.2.2.2
    have bv0 := bv.1
    clear bv rdv
    by_cases hlt : i < toolN wl
    · have il : Hold (i + 1 ≤ 3 ∧ i + 1 ≤ toolN wl) := ⟨by omega⟩
      have e3 : ((i : Int) < 3) = True := by simp only [eq_iff_iff, iff_true]; omega
      have hwn : i < nW := by unfold toolN at hlt; omega
      have i1 : ((i : Int) < (nW : Int)) = True := by simp only [eq_iff_iff, iff_true]; omega
      have i0 : (0 : Int) ≤ (i : Int) := by omega
      have hxi : wl[i]? = some wl[i] := List.getElem?_eq_getElem (by omega)
      obtain ⟨b, off, rfl, hro⟩ := hx.out.at u8C_len (show i < nW by omega) hxi
      have r0 := hro 0 _ rfl
      have r1 := hro 1 _ rfl
      rw [Nat.add_zero] at r0
      have wb := hB.out wl[i] (List.getElem_mem _)
      have wg : wl.getD i (0, 0) = wl[i] := by rw [List.getD_eq_getElem?_getD, hxi]; rfl
      generalize wl[i] = w at *
      unfold Byte at wb
      have q0 : IntKind.i64.wrap w.1 = w.1 := IntWalk.i64_in _ (by omega)
      have q1 : IntKind.i64.wrap w.2 = w.2 := IntWalk.i64_in _ (by omega)
      have q2 : w.1.tmod 20 = w.1 % 20 := Int.tmod_eq_emod_of_nonneg wb.1.1
      have q3 : w.2.tmod 20 = w.2 % 20 := Int.tmod_eq_emod_of_nonneg wb.2.1
      have q4 : IntKind.i64.wrap (w.1 % 20 + w.2 % 20) = w.1 % 20 + w.2 % 20 := IntWalk.i64_in _ (by omega)
      clear hi0 hlt hwn hro hxi wb hj mb hln nb
      repeat' (first | (with_reducible refine at_seq (by with_unfolding_all exact rfl) ?_) | ((with_reducible first | refine at_plain (by with_unfolding_all exact rfl) ?_ | refine at_draw (by with_unfolding_all exact rfl) ?_ | refine at_cond (by with_unfolding_all exact rfl) ?_ | refine at_exit (by with_unfolding_all exact rfl) ?_ | refine at_ret (by with_unfolding_all exact rfl) ?_ | refine at_skip (by with_unfolding_all exact rfl) ?_ | refine at_label (by with_unfolding_all exact rfl) ?_) <;> try simp -implicitDefEqProofs (maxSteps := 1000000) only [go_sem, seval, *]) | (with_reducible first | refine at_block (by with_unfolding_all exact rfl) ?_ | refine at_loop (by with_unfolding_all exact rfl) ?_) | ((first | ((with_reducible refine DDraw.lastS (id := 8) [] (Hp.drop _ gv) mo ?_ drop_sub ?_); kernel_rfl) | ((with_reducible refine NewK.intro fun g hg hn => ?_) <;> try simp only [own_none_iff] at hn) | ((with_reducible first | refine GuardB.split (fun hc => ?_) (fun hc => ?_) | refine CondK.split (fun hc => ?_) (fun hc => ?_) | refine PickK.split (fun hc => ?_) (fun hc => ?_) | refine GuardD.split (fun hc => ?_) (fun hc => ?_)) <;> (have hc2 := hc; try simp only [beq_eq_false_iff_ne, beq_iff_eq, ne_eq, bne_iff_ne, bne_eq_false_iff_eq, decide_eq_true_eq, decide_eq_false_iff_not, Bool.not_true, Bool.not_false, Int.not_le, Int.not_lt] at hc2)) | (with_reducible first | refine dop_buildSlice ?_ | refine dop_build ?_) | ((with_reducible refine Cr.call (f := 44) (lspan_ok _ _ _) ?_)) | (with_reducible refine CallV.of (f := 44) (lspan_ok _ _ _) ni44 ?_) | ((with_reducible refine DDraw.told (id := 1) [] [] mo ?_ ?_); kernel_rfl) | ((with_reducible refine DDraw.told (id := 8) [1] [.tmp 3] mo ?_ ?_); kernel_rfl) | (with_reducible first | refine stp_build ?_ | refine stp_buildSlice ?_ | refine stp_store ?_ | refine stp_ns ?_) | (with_reducible refine NsB.intro (fun h' ho K' hk => by simp -implicitDefEqProofs (maxSteps := 1000000) only [go_sem, seval, *] <;> exact hk) ?_) | (with_reducible refine WrB.intro _ (by simp -implicitDefEqProofs (maxSteps := 1000000) only [go_sem, seval, *]) (fun h' ho K' hk => by simp -implicitDefEqProofs (maxSteps := 1000000) only [go_sem, seval, *]; exact hk) (fun h' ho K' hk => by simp -implicitDefEqProofs (maxSteps := 1000000) only [go_sem, seval, *] at hk; exact hk) (fun h' ho hk => by simp -implicitDefEqProofs (maxSteps := 1000000) only [go_sem, seval, *] at hk <;> with_unfolding_all exact False.elim hk) ?_) | (with_reducible refine WrB.intro _ (by simp -implicitDefEqProofs (maxSteps := 1000000) only [go_sem, seval, *]) (fun h' ho K' hk => by simp -implicitDefEqProofs (maxSteps := 1000000) only [go_sem, seval, *]; exact hk) ?_) | ((with_reducible refine DDraw.auto mo ?_ ?_); kernel_rfl)) <;> simp -implicitDefEqProofs (maxSteps := 1000000) only [go_sem, seval, *]) | (with_reducible refine bi_same ?_))
      rename_i g5 hg5 hn5
      have gl := hn.2.2
      refine AppD.draw Try.underlying24 inf_span (by decide) (by decide) (fa5.out.kept fun b ob e1 e2 => by rw [Hp.own_set, if_neg (own_ne e2 g gl).1, Hp.own_set, if_neg (own_ne e2 g5 hn5).1]; exact e2) (ys := [.int .i64 (w.1 % 20), .int .i64 (w.1 % 20 + w.2 % 20)]) (by simp -implicitDefEqProofs (maxSteps := 1000000) only [go_sem, seval, *]) (one_sp _ _) (by have := il.out; omega) (fun b e => by cases e; rw [Hp.own_drop, if_pos rfl]) fun u gA obA hA bA r1 => ?_
      have nA : gA ≠ g ∧ gA ≠ g5 ∧ gA ≠ g1 ∧ gA ≠ g2 ∧ gA ≠ g3 ∧ h0.own gA = none := by
        rcases hA with e | ⟨e, _⟩
        · cases e
          have q := fa6.out gv rfl
          exact ⟨(own_ne hov g gl).1, (own_ne hov g5 hn5).1, q.2.1, q.2.2.1, q.2.2.2, q.1⟩
        · simp only [own_none_iff] at e
          have e2 := e.2.2.2.2
          exact ⟨e.1, e.2.2.1, (u1 gA e2).2, (u2 gA e2).2, (u3 gA e2).2, kept_none fa1.out e2⟩
      have y1 := neG nA.1
      have y2 := neG nA.2.1
      have y3 := neG nA.2.2.1
      have y4 := neG nA.2.2.2.1
      have y5 := neG nA.2.2.2.2.1
      obtain ⟨pu, cu, rfl⟩ := r1.len
      have r1' := Hold.mk r1
      have fa5H := fa5
      clear r1 hA fa5
      simp -implicitDefEqProofs (maxSteps := 1000000) only [go_sem, seval, *]
      repeat' (first | (with_reducible refine at_seq (by with_unfolding_all exact rfl) ?_) | ((with_reducible first | refine at_plain (by with_unfolding_all exact rfl) ?_ | refine at_draw (by with_unfolding_all exact rfl) ?_ | refine at_cond (by with_unfolding_all exact rfl) ?_ | refine at_exit (by with_unfolding_all exact rfl) ?_ | refine at_ret (by with_unfolding_all exact rfl) ?_ | refine at_skip (by with_unfolding_all exact rfl) ?_ | refine at_label (by with_unfolding_all exact rfl) ?_) <;> try simp -implicitDefEqProofs (maxSteps := 1000000) only [go_sem, seval, *]) | (with_reducible first | refine at_block (by with_unfolding_all exact rfl) ?_ | refine at_loop (by with_unfolding_all exact rfl) ?_) | ((first | ((with_reducible refine NewK.intro fun g hg hn => ?_) <;> try simp only [own_none_iff] at hn) | ((with_reducible first | refine GuardB.split (fun hc => ?_) (fun hc => ?_) | refine CondK.split (fun hc => ?_) (fun hc => ?_) | refine PickK.split (fun hc => ?_) (fun hc => ?_) | refine GuardD.split (fun hc => ?_) (fun hc => ?_)) <;> (have hc2 := hc; try simp only [beq_eq_false_iff_ne, beq_iff_eq, ne_eq, bne_iff_ne, bne_eq_false_iff_eq, decide_eq_true_eq, decide_eq_false_iff_not, Bool.not_true, Bool.not_false, Int.not_le, Int.not_lt] at hc2)) | (with_reducible first | refine dop_buildSlice ?_ | refine dop_build ?_) | ((with_reducible refine DDraw.told (id := 1) [] [] mo ?_ ?_); kernel_rfl) | ((with_reducible refine DDraw.told (id := 8) [1] [.tmp 3] mo ?_ ?_); kernel_rfl) | (with_reducible first | refine stp_build ?_ | refine stp_buildSlice ?_ | refine stp_store ?_ | refine stp_ns ?_) | (with_reducible refine NsB.intro (fun h' ho K' hk => by simp -implicitDefEqProofs (maxSteps := 1000000) only [go_sem, seval, *] <;> exact hk) ?_) | (with_reducible refine WrB.intro _ (by simp -implicitDefEqProofs (maxSteps := 1000000) only [go_sem, seval, *]) (fun h' ho K' hk => by simp -implicitDefEqProofs (maxSteps := 1000000) only [go_sem, seval, *]; exact hk) (fun h' ho K' hk => by simp -implicitDefEqProofs (maxSteps := 1000000) only [go_sem, seval, *] at hk; exact hk) (fun h' ho hk => by simp -implicitDefEqProofs (maxSteps := 1000000) only [go_sem, seval, *] at hk <;> with_unfolding_all exact False.elim hk) ?_) | (with_reducible refine WrB.intro _ (by simp -implicitDefEqProofs (maxSteps := 1000000) only [go_sem, seval, *]) (fun h' ho K' hk => by simp -implicitDefEqProofs (maxSteps := 1000000) only [go_sem, seval, *]; exact hk) ?_) | ((with_reducible refine DDraw.auto mo ?_ ?_); kernel_rfl)) <;> simp -implicitDefEqProofs (maxSteps := 1000000) only [go_sem, seval, *]) | (with_reducible refine bi_same ?_))
      have il := il.out
      have hj := fa0.out
      refine LoopK.intro (k' - 1) (by omega) ⟨i + 1, .slice pu (i + 1) cu, _, ⟨by omega⟩, ⟨subS (subS (subS (subS fa1.out (kept_none fa1.out hn5)) (kept_none fa1.out gl)) nA.2.2.2.2.2) m2⟩, (by simp -implicitDefEqProofs (maxSteps := 1000000) only [go_sem, seval, *]), (by simp -implicitDefEqProofs (maxSteps := 1000000) only [go_sem, seval, *]), (by simp -implicitDefEqProofs (maxSteps := 1000000) only [go_sem, seval, *]), ⟨by rw [toolW_succ, List.flatMap_append, wg]; exact Own.at_ (gA := gA) r1'.out bA (by simp -implicitDefEqProofs (maxSteps := 1000000) only [go_sem, seval, *])⟩, ⟨fun x e => by rw [bA] at e; cases e; exact ⟨nA.2.2.2.2.2, nA.2.2.1, nA.2.2.2.1, nA.2.2.2.2.1⟩⟩, ⟨fun e => by omega⟩, fl_re (by kernel_rfl)⟩
    · have hin : toolN wl = i := by omega
      have fH := Hold.mk fa5.out
      by_cases hw : i < nW
      · have i1 : ((i : Int) < (nW : Int)) = True := by simp only [eq_iff_iff, iff_true]; omega
        have e3 : ((i : Int) < 3) = False := by simp only [eq_iff_iff, iff_false]; unfold toolN at hin; omega
        clear hj mb hln nb hi0 hlt hw
        repeat' (first | (with_reducible refine at_seq (by with_unfolding_all exact rfl) ?_) | ((with_reducible first | refine at_plain (by with_unfolding_all exact rfl) ?_ | refine at_draw (by with_unfolding_all exact rfl) ?_ | refine at_cond (by with_unfolding_all exact rfl) ?_ | refine at_exit (by with_unfolding_all exact rfl) ?_ | refine at_ret (by with_unfolding_all exact rfl) ?_ | refine at_skip (by with_unfolding_all exact rfl) ?_ | refine at_label (by with_unfolding_all exact rfl) ?_) <;> try simp -implicitDefEqProofs (maxSteps := 1000000) only [go_sem, seval, *]) | (with_reducible first | refine at_block (by with_unfolding_all exact rfl) ?_ | refine at_loop (by with_unfolding_all exact rfl) ?_) | ((first | ((with_reducible refine NewK.intro fun g hg hn => ?_) <;> try simp only [own_none_iff] at hn) | ((with_reducible first | refine GuardB.split (fun hc => ?_) (fun hc => ?_) | refine CondK.split (fun hc => ?_) (fun hc => ?_) | refine PickK.split (fun hc => ?_) (fun hc => ?_) | refine GuardD.split (fun hc => ?_) (fun hc => ?_)) <;> (have hc2 := hc; try simp only [beq_eq_false_iff_ne, beq_iff_eq, ne_eq, bne_iff_ne, bne_eq_false_iff_eq, decide_eq_true_eq, decide_eq_false_iff_not, Bool.not_true, Bool.not_false, Int.not_le, Int.not_lt] at hc2)) | (with_reducible first | refine dop_buildSlice ?_ | refine dop_build ?_) | ((with_reducible refine DDraw.told (id := 1) [] [] mo ?_ ?_); kernel_rfl) | ((with_reducible refine DDraw.told (id := 8) [1] [.tmp 3] mo ?_ ?_); kernel_rfl) | (with_reducible first | refine stp_build ?_ | refine stp_buildSlice ?_ | refine stp_store ?_ | refine stp_ns ?_) | (with_reducible refine NsB.intro (fun h' ho K' hk => by simp -implicitDefEqProofs (maxSteps := 1000000) only [go_sem, seval, *] <;> exact hk) ?_) | (with_reducible refine WrB.intro _ (by simp -implicitDefEqProofs (maxSteps := 1000000) only [go_sem, seval, *]) (fun h' ho K' hk => by simp -implicitDefEqProofs (maxSteps := 1000000) only [go_sem, seval, *]; exact hk) (fun h' ho K' hk => by simp -implicitDefEqProofs (maxSteps := 1000000) only [go_sem, seval, *] at hk; exact hk) (fun h' ho hk => by simp -implicitDefEqProofs (maxSteps := 1000000) only [go_sem, seval, *] at hk <;> with_unfolding_all exact False.elim hk) ?_) | (with_reducible refine WrB.intro _ (by simp -implicitDefEqProofs (maxSteps := 1000000) only [go_sem, seval, *]) (fun h' ho K' hk => by simp -implicitDefEqProofs (maxSteps := 1000000) only [go_sem, seval, *]; exact hk) ?_) | ((with_reducible refine DDraw.auto mo ?_ ?_); kernel_rfl)) <;> simp -implicitDefEqProofs (maxSteps := 1000000) only [go_sem, seval, *]) | (with_reducible refine bi_same ?_))
        obtain rfl := hin
        exact hK.out gv cv _ (subS fa1.out m1) bv0 (Own.at_ (gA := gv) fH.out rfl (by simp -implicitDefEqProofs (maxSteps := 1000000) only [go_sem, seval, *]))
      · have i1 : ((i : Int) < (nW : Int)) = False := by simp only [eq_iff_iff, iff_false]; omega
        clear hj mb hln nb hi0 hlt hw
        repeat' (first | (with_reducible refine at_seq (by with_unfolding_all exact rfl) ?_) | ((with_reducible first | refine at_plain (by with_unfolding_all exact rfl) ?_ | refine at_draw (by with_unfolding_all exact rfl) ?_ | refine at_cond (by with_unfolding_all exact rfl) ?_ | refine at_exit (by with_unfolding_all exact rfl) ?_ | refine at_ret (by with_unfolding_all exact rfl) ?_ | refine at_skip (by with_unfolding_all exact rfl) ?_ | refine at_label (by with_unfolding_all exact rfl) ?_) <;> try simp -implicitDefEqProofs (maxSteps := 1000000) only [go_sem, seval, *]) | (with_reducible first | refine at_block (by with_unfolding_all exact rfl) ?_ | refine at_loop (by with_unfolding_all exact rfl) ?_) | ((first | ((with_reducible refine NewK.intro fun g hg hn => ?_) <;> try simp only [own_none_iff] at hn) | ((with_reducible first | refine GuardB.split (fun hc => ?_) (fun hc => ?_) | refine CondK.split (fun hc => ?_) (fun hc => ?_) | refine PickK.split (fun hc => ?_) (fun hc => ?_) | refine GuardD.split (fun hc => ?_) (fun hc => ?_)) <;> (have hc2 := hc; try simp only [beq_eq_false_iff_ne, beq_iff_eq, ne_eq, bne_iff_ne, bne_eq_false_iff_eq, decide_eq_true_eq, decide_eq_false_iff_not, Bool.not_true, Bool.not_false, Int.not_le, Int.not_lt] at hc2)) | (with_reducible first | refine dop_buildSlice ?_ | refine dop_build ?_) | ((with_reducible refine DDraw.told (id := 1) [] [] mo ?_ ?_); kernel_rfl) | ((with_reducible refine DDraw.told (id := 8) [1] [.tmp 3] mo ?_ ?_); kernel_rfl) | (with_reducible first | refine stp_build ?_ | refine stp_buildSlice ?_ | refine stp_store ?_ | refine stp_ns ?_) | (with_reducible refine NsB.intro (fun h' ho K' hk => by simp -implicitDefEqProofs (maxSteps := 1000000) only [go_sem, seval, *] <;> exact hk) ?_) | (with_reducible refine WrB.intro _ (by simp -implicitDefEqProofs (maxSteps := 1000000) only [go_sem, seval, *]) (fun h' ho K' hk => by simp -implicitDefEqProofs (maxSteps := 1000000) only [go_sem, seval, *]; exact hk) (fun h' ho K' hk => by simp -implicitDefEqProofs (maxSteps := 1000000) only [go_sem, seval, *] at hk; exact hk) (fun h' ho hk => by simp -implicitDefEqProofs (maxSteps := 1000000) only [go_sem, seval, *] at hk <;> with_unfolding_all exact False.elim hk) ?_) | (with_reducible refine WrB.intro _ (by simp -implicitDefEqProofs (maxSteps := 1000000) only [go_sem, seval, *]) (fun h' ho K' hk => by simp -implicitDefEqProofs (maxSteps := 1000000) only [go_sem, seval, *]; exact hk) ?_) | ((with_reducible refine DDraw.auto mo ?_ ?_); kernel_rfl)) <;> simp -implicitDefEqProofs (maxSteps := 1000000) only [go_sem, seval, *]) | (with_reducible refine bi_same ?_))
        obtain rfl := hin
        exact hK.out gv cv _ (subS fa1.out m1) bv0 (Own.at_ (gA := gv) fH.out rfl (by simp -implicitDefEqProofs (maxSteps := 1000000) only [go_sem, seval, *]))

end Go.Proofs.Ytlbpfmnobapidaa
