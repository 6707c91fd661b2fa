/-
  Walks. Conditions: none.
-/
import Derived.Test.YtlblahfndlgfmaaF5
set_option linter.unusedVariables false
set_option linter.unusedSimpArgs false
namespace Go.Proofs.Ytlblahfndlgfmaa
open Go.RowKit Go.SL
set_option maxHeartbeats 1000000
set_option maxRecDepth 1000000
attribute [local go_sem] fl_getD fl_get fl_set lk_def st_def gL_nil gL_zero gL_succ sL_nil_zero sL_nil_succ sL_zero sL_succ Option.getD_none FgK_app onlyL_nil onlyL_none onlyL_some setO_some toB_bool toB_undef yl_def
attribute [local go_sem high] GuardK_yl GuardL_yl
attribute [local go_sem] initL_one initL_cons lastL_one lastL_cons LastK_app fin_round Fr.inr_w0 Fr.inr_ro Fr.inr_M cell_inr LoopO_some YieldK_some RoundQ_normal RoundQ_ret RoundQ_exit EndR_none EndR_some BegK_app BegR_some OutR_none OutR_ret OutR_exit LeftR_some LeftK_app
attribute [local go_sem] i64w
attribute [local go_sem] dwp_eqGuardE dwp_eqGuardN rval_eqGuardE rval_eqGuardN
attribute [local go_sem] add_none
theorem arm_monoF {ld th hd x y x' y' : Int} (ht : 0 ≤ th) (hh : 0 ≤ hd) (hx : x ≤ x') (hy : y ≤ y') : armV ld th hd x y ≤ armV ld th hd x' y' := by
  have h1 := Int.mul_le_mul_of_nonneg_left hx ht
  have h2 := Int.mul_le_mul_of_nonneg_left hy hh
  unfold armV fricV
  omega
theorem endT_monoF {a a' t : Int} (h1 : 1 ≤ a') (h2 : a' ≤ a) (h3 : 0 ≤ t) : endT a t ≤ endT a' t := by
  unfold endT
  refine Int.le_ediv_of_mul_le (by omega) ?_
  have h4 : 0 ≤ 1000 * t / a := Int.ediv_nonneg (by omega) (by omega)
  have h5 := Int.mul_le_mul_of_nonneg_left h2 h4
  have h6 := Int.ediv_mul_le (1000 * t) (show a ≠ 0 by omega)
  omega
theorem g_bd {ld th hd ot0 ot1 oh0 oh1 st0 st1 sp0 sp1 yi0 yi1 tq : Int} (h : gE ld th hd ot0 ot1 oh0 oh1 st0 st1 sp0 sp1 yi0 yi1 tq = 0) : BoltOk ld th hd ot0 ot1 oh0 oh1 st0 st1 sp0 sp1 yi0 yi1 ∧ (0 ≤ tq ∧ tq ≤ 10000000000000) ∧ gA ld th hd ot0 ot1 oh0 oh1 st0 st1 sp0 sp1 yi0 yi1 tq = endT (armV ld th hd ot1 oh1) tq ∧ gB ld th hd ot0 ot1 oh0 oh1 st0 st1 sp0 sp1 yi0 yi1 tq = endT (armV ld th hd ot0 oh0) tq ∧ 0 ≤ gA ld th hd ot0 ot1 oh0 oh1 st0 st1 sp0 sp1 yi0 yi1 tq ∧ gA ld th hd ot0 ot1 oh0 oh1 st0 st1 sp0 sp1 yi0 yi1 tq ≤ gB ld th hd ot0 ot1 oh0 oh1 st0 st1 sp0 sp1 yi0 yi1 tq ∧ gB ld th hd ot0 ot1 oh0 oh1 st0 st1 sp0 sp1 yi0 yi1 tq ≤ 100000000 := by
  have h0 : openV ld th hd ot0 ot1 oh0 oh1 st0 st1 sp0 sp1 yi0 yi1 (!(wayB 1 tq tq 0 0 0 0)) = 0 := by
    unfold gE at h
    split at h
    · assumption
    · exact absurd h (by decide)
  have h1 : FB ld th hd ot0 ot1 oh0 oh1 st0 st1 sp0 sp1 yi0 yi1 1 tq tq 0 0 0 0 ≤ 100000000 := by
    unfold gE at h
    rw [if_pos h0] at h
    split at h
    · exact absurd h (by decide)
    · omega
  obtain ⟨bk, wk⟩ := openV_ok h0
  have ha : gA ld th hd ot0 ot1 oh0 oh1 st0 st1 sp0 sp1 yi0 yi1 tq = endT (armV ld th hd ot1 oh1) tq := by
    unfold gA FA fLo
    rw [if_pos h, if_pos h0, if_pos rfl]
  have hb : gB ld th hd ot0 ot1 oh0 oh1 st0 st1 sp0 sp1 yi0 yi1 tq = endT (armV ld th hd ot0 oh0) tq := by
    unfold gB FB fHi
    rw [if_pos h, if_pos h0, if_pos rfl]
  have hb2 : gB ld th hd ot0 ot1 oh0 oh1 st0 st1 sp0 sp1 yi0 yi1 tq = FB ld th hd ot0 ot1 oh0 oh1 st0 st1 sp0 sp1 yi0 yi1 1 tq tq 0 0 0 0 := by
    unfold gB
    rw [if_pos h]
  have tb : 0 ≤ tq ∧ tq ≤ 10000000000000 := by
    unfold wayB at wk
    simp only [show ((1 : Int) == 1) = true by decide, if_true, Bool.and_eq_true] at wk
    have := wk.1
    split at this
    · rename_i q
      have := spB_iff.1 q
      omega
    · cases this
  have m0 := arm_bd ld th hd ot0 oh0 bk.hl bk.ht bk.hh (by have := bk.ho; omega) (by have := bk.hp; omega)
  have m1 := arm_monoF (ld := ld) bk.ht.1 bk.hh.1 bk.ho.2.1 bk.hp.2.1
  have m2 := endT_monoF (t := tq) (by omega) m1 tb.1
  have m3 := (endT_bd (armV ld th hd ot1 oh1) tq (by omega) tb).1
  exact ⟨bk, tb, ha, hb, by omega, by omega, by omega⟩
theorem pullF_bd {f : Nat → Int × Int} {sh : List Int} {n i : Nat} {g0 g1 : Int} (hg : 0 ≤ g0 ∧ g0 ≤ g1 ∧ g1 ≤ 100000000) (hs : ∀ j, 0 ≤ shareV sh n j ∧ shareV sh n j ≤ 500) (hf : FBd f 100000000) : FBd (pullF f sh n i g0 g1) 100000000 := by
  have hi0 := hf i
  exact goF_bd (by omega) (by omega) hs (updF_bd hf (by dsimp only; omega)) n
theorem pullL_bd {f l : Nat → Int × Int} {sh : List Int} {n i : Nat} {g0 g1 B : Int} (hg : 0 ≤ g0 ∧ g0 ≤ g1 ∧ g1 ≤ 100000000) (hs : ∀ j, 0 ≤ shareV sh n j ∧ shareV sh n j ≤ 500) (hf : FBd f 100000000) (hB : 0 ≤ B) (hl : FBd l B) : FBd (pullL f l sh n i g0 g1) (B + n * 50000001) := by
  have hi0 := hf i
  exact goL_bd (by omega) (by omega) hs (updF_bd hl (by dsimp only; omega)) n
theorem set3_sub {S0 : Hp} {a b c : Nat} {x y z : Obj} (da : S0.own a = none) (db : S0.own b = none) (dc : S0.own c = none) : ∀ g o, S0.own g = some o → (((S0.set a x).set b y).set c z).own g = some o := by
  intro g o e
  have h1 : g ≠ a := by rintro rfl; rw [da] at e; cases e
  have h2 : g ≠ b := by rintro rfl; rw [db] at e; cases e
  have h3 : g ≠ c := by rintro rfl; rw [dc] at e; cases e
  rw [Hp.own_set, if_neg h3, Hp.own_set, if_neg h2, Hp.own_set, if_neg h1]
  exact e
set_option maxHeartbeats 8000000 in
theorem step_D (F : Fr) (hT : F.top = true) (h S0 : Hp) (K : Value → Hp → Prop) (n i : Nat) (tq mm B : Int) (gf gs so sn sc gF cF gL cL : Nat) (ld th hd ot0 ot1 oh0 oh1 st0 st1 sp0 sp1 yi0 yi1 nd : Int) (sh : List Int) (f l : Nat → Int × Int)
    (hN : Hold (3 ≤ n ∧ n ≤ 12 ∧ sn = n / 2)) (hi : Hold (i < n)) (hG : Hold (gE ld th hd ot0 ot1 oh0 oh1 st0 st1 sp0 sp1 yi0 yi1 tq = 0)) (hf : Hold (FBd f 100000000)) (hl : Hold (FBd l B)) (hB : Hold (0 ≤ B ∧ B ≤ 1000000000000000))
    (hs : Hold (∀ j, 0 ≤ shareV sh n j ∧ shareV sh n j ≤ 500)) (hS : Hold (∀ g o, S0.own g = some o → h.own g = some o)) (dF : S0.own gF = none) (dL : S0.own gL = none) (df : S0.own gf = none)
    (hq : gf ≠ gF ∧ gF ≠ gf ∧ gf ≠ gL ∧ gL ≠ gf ∧ gF ≠ gL ∧ gL ≠ gF) (hsh : Hold (readI (S0.cell? F) gs so sn = some sh)) (z1 : F.w0.heap.size ≤ gf) (z2 : F.w0.heap.size ≤ gF) (z3 : F.w0.heap.size ≤ gL)
    (o1 : h.own gf = some (.cells #[.int .i64 n, .int .i64 ld, .int .i64 th, .int .i64 hd, .int .i64 ot0, .int .i64 ot1, .int .i64 oh0, .int .i64 oh1, .int .i64 st0, .int .i64 st1, .int .i64 sp0, .int .i64 sp1, .int .i64 yi0, .int .i64 yi1, .slice (some ⟨gs, so, none⟩) sn sc, .int .i64 nd, .slice (some ⟨gF, 0, none⟩) n cF, .slice (some ⟨gL, 0, none⟩) n cL, .int .i64 mm] 95)) (o2 : h.own gF = some (.cells (flS f n).toArray 26)) (o3 : h.own gL = some (.cells (flS l n).toArray 26))
    (hK : Hold (K (.int .i64 0) (((S0.set gF (.cells (flS (pullF f sh n i (gA ld th hd ot0 ot1 oh0 oh1 st0 st1 sp0 sp1 yi0 yi1 tq) (gB ld th hd ot0 ot1 oh0 oh1 st0 st1 sp0 sp1 yi0 yi1 tq)) n).toArray 26)).set gL (.cells (flS (pullL f l sh n i (gA ld th hd ot0 ot1 oh0 oh1 st0 st1 sp0 sp1 yi0 yi1 tq) (gB ld th hd ot0 ot1 oh0 oh1 st0 st1 sp0 sp1 yi0 yi1 tq)) n).toArray 26)).set gf (.cells #[.int .i64 n, .int .i64 ld, .int .i64 th, .int .i64 hd, .int .i64 ot0, .int .i64 ot1, .int .i64 oh0, .int .i64 oh1, .int .i64 st0, .int .i64 st1, .int .i64 sp0, .int .i64 sp1, .int .i64 yi0, .int .i64 yi1, .slice (some ⟨gs, so, none⟩) sn sc, .int .i64 nd, .slice (some ⟨gF, 0, none⟩) n cF, .slice (some ⟨gL, 0, none⟩) n cL, .int .i64 (max mm (pullF f sh n i (gA ld th hd ot0 ot1 oh0 oh1 st0 st1 sp0 sp1 yi0 yi1 tq) (gB ld th hd ot0 ot1 oh0 oh1 st0 st1 sp0 sp1 yi0 yi1 tq) i).2)] 95)))) :
    DCall Try.prog F 67 #[.pointer (some ⟨gf, 0, none⟩), .agg #[.int .i64 i, .int .i64 tq]] h K := by
  have gb := g_bd hG.out
  have gbH : Hold ((0 ≤ gA ld th hd ot0 ot1 oh0 oh1 st0 st1 sp0 sp1 yi0 yi1 tq ∧ gA ld th hd ot0 ot1 oh0 oh1 st0 st1 sp0 sp1 yi0 yi1 tq ≤ 100000000) ∧ 0 ≤ gB ld th hd ot0 ot1 oh0 oh1 st0 st1 sp0 sp1 yi0 yi1 tq ∧ gB ld th hd ot0 ot1 oh0 oh1 st0 st1 sp0 sp1 yi0 yi1 tq ≤ 100000000) := ⟨by omega⟩
  clear gb
  have hG0 := hG.out
  have w1 := own_ne o1
  have w2 := own_ne o2
  have w3 := own_ne o3
  have e1 : IntKind.i64.wrap ((n : Int) - 1) = (n : Int) - 1 := IntWalk.i64_in _ (by have := hN.out; omega)
  have b1 : ((0 : Int) ≤ (i : Int)) = True := by simp only [eq_iff_iff, iff_true]; omega
  have b2 : ((i : Int) ≤ (n : Int) - 1) = True := by have := hi.out; simp only [eq_iff_iff, iff_true]; omega
  (refine DCall.inlP (l := _) Try.func67 Try.ntmps67 rfl rfl (by simp only [seval, List.length_cons, List.length_nil]) (by simp only [seval, List.length_cons, List.length_nil]) ?_; simp only [Try.results67, List.map_cons, List.map_nil])
  repeat' (first | (with_reducible refine at_seq (by with_unfolding_all exact rfl) ?_) | ((first | (with_reducible refine at_plain (by with_unfolding_all exact rfl) ?_) | (with_reducible refine at_draw (by with_unfolding_all exact rfl) ?_) | (with_reducible refine at_cond (by with_unfolding_all exact rfl) ?_) | (with_reducible refine at_exit (by with_unfolding_all exact rfl) ?_) | (with_reducible refine at_ret (by with_unfolding_all exact rfl) ?_) | (with_reducible refine at_skip (by with_unfolding_all exact rfl) ?_) | (with_reducible refine at_label (by with_unfolding_all exact rfl) ?_)) <;> try simp -implicitDefEqProofs (maxSteps := 1000000) only [go_sem, seval, *]) | (with_reducible refine at_block (by with_unfolding_all exact rfl) ?_) | (with_reducible refine at_loop (by with_unfolding_all exact rfl) ?_) | ((first | ((with_reducible refine NewK.intro fun g hg hn => ?_) <;> try simp only [own_none_iff] at hn) | ((with_reducible refine GuardB.split (fun hc => ?_) (fun hc => ?_)) <;> (have hc2 := hc; try simp only [beq_eq_false_iff_ne, beq_iff_eq, ne_eq, bne_iff_ne, bne_eq_false_iff_eq, decide_eq_true_eq, decide_eq_false_iff_not, Bool.not_true, Bool.not_false, Int.not_le, Int.not_lt] at hc2)) | ((with_reducible refine CondK.split (fun hc => ?_) (fun hc => ?_)) <;> (have hc2 := hc; try simp only [beq_eq_false_iff_ne, beq_iff_eq, ne_eq, bne_iff_ne, bne_eq_false_iff_eq, decide_eq_true_eq, decide_eq_false_iff_not, Bool.not_true, Bool.not_false, Int.not_le, Int.not_lt] at hc2)) | ((with_reducible refine PickK.split (fun hc => ?_) (fun hc => ?_)) <;> (have hc2 := hc; try simp only [beq_eq_false_iff_ne, beq_iff_eq, ne_eq, bne_iff_ne, bne_eq_false_iff_eq, decide_eq_true_eq, decide_eq_false_iff_not, Bool.not_true, Bool.not_false, Int.not_le, Int.not_lt] at hc2)) | (with_reducible refine dop_buildSlice ?_) | (with_reducible refine dop_build ?_) | ((with_reducible refine Cr.call (f := 57) (isBolt_ok _ gf n _ _ _ _ [(i : Int)] (by simp -implicitDefEqProofs (maxSteps := 1000000) only [go_sem, seval, *]) ⟨by decide⟩ (by simp -implicitDefEqProofs (maxSteps := 1000000) only [go_sem, seval, *]) e1) ?_)) | (with_reducible refine CallV.of (f := 57) (isBolt_ok _ gf n _ _ _ _ [(i : Int)] (by simp -implicitDefEqProofs (maxSteps := 1000000) only [go_sem, seval, *]) ⟨by decide⟩ (by simp -implicitDefEqProofs (maxSteps := 1000000) only [go_sem, seval, *]) e1) ni57 ?_) | ((with_reducible refine Cr.call (f := 36) (gives_ok _ gf ld th hd ot0 ot1 oh0 oh1 st0 st1 sp0 sp1 yi0 yi1 tq (by simp -implicitDefEqProofs (maxSteps := 1000000) only [go_sem, seval, *])) ?_)) | (with_reducible refine CallV.of (f := 36) (gives_ok _ gf ld th hd ot0 ot1 oh0 oh1 st0 st1 sp0 sp1 yi0 yi1 tq (by simp -implicitDefEqProofs (maxSteps := 1000000) only [go_sem, seval, *])) ni36 ?_) | ((with_reducible refine GuardD.split (fun hc => ?_) (fun hc => ?_)) <;> (have hc2 := hc; try simp only [beq_eq_false_iff_ne, beq_iff_eq, ne_eq, bne_iff_ne, bne_eq_false_iff_eq, decide_eq_true_eq, decide_eq_false_iff_not, Bool.not_true, Bool.not_false, Int.not_le, Int.not_lt] at hc2)) | (with_reducible refine stp_build ?_) | (with_reducible refine stp_buildSlice ?_) | (with_reducible refine stp_store ?_) | (with_reducible refine stp_ns ?_) | (with_reducible refine NsB.intro (fun h' ho K' hk => by simp -implicitDefEqProofs (maxSteps := 1000000) only [go_sem, seval, *] <;> exact hk) ?_) | (with_reducible refine WrB.intro _ (by simp -implicitDefEqProofs (maxSteps := 1000000) only [go_sem, seval, *]) (fun h' ho K' hk => by simp -implicitDefEqProofs (maxSteps := 1000000) only [go_sem, seval, *]; exact hk) (fun h' ho K' hk => by simp -implicitDefEqProofs (maxSteps := 1000000) only [go_sem, seval, *] at hk; exact hk) (fun h' ho hk => by simp -implicitDefEqProofs (maxSteps := 1000000) only [go_sem, seval, *] at hk <;> with_unfolding_all exact False.elim hk) ?_) | (with_reducible refine WrB.intro _ (by simp -implicitDefEqProofs (maxSteps := 1000000) only [go_sem, seval, *]) (fun h' ho K' hk => by simp -implicitDefEqProofs (maxSteps := 1000000) only [go_sem, seval, *]; exact hk) ?_) | ((with_reducible refine DDraw.auto mo ?_ ?_); kernel_rfl)) <;> simp -implicitDefEqProofs (maxSteps := 1000000) only [go_sem, seval, *]) | (with_reducible refine bi_same ?_))
  have hw := fun g o (e : S0.own g = some o) => own_ne (hS.out g o e)
  refine pull_D F hT _ S0 _ n i _ _ mm B gf gs so sn sc gF cF gL cL (.int .i64 ld) (.int .i64 th) (.int .i64 hd) (.int .i64 ot0) (.int .i64 ot1) (.int .i64 oh0) (.int .i64 oh1) (.int .i64 st0) (.int .i64 st1) (.int .i64 sp0) (.int .i64 sp1) (.int .i64 yi0) (.int .i64 yi1) (.int .i64 nd) sh f l hN hi gbH hf hl hB hs ⟨fun g o e => ?_⟩ dF dL df hq hsh z1 z2 z3 (by simp -implicitDefEqProofs (maxSteps := 1000000) only [go_sem, seval, *]) (by simp -implicitDefEqProofs (maxSteps := 1000000) only [go_sem, seval, *]) (by simp -implicitDefEqProofs (maxSteps := 1000000) only [go_sem, seval, *]) ⟨?_⟩
  · have a0 := hw g o e
    have a1 := hS.out g o e
    simp -implicitDefEqProofs (maxSteps := 1000000) only [go_sem, seval, *]
  · clear o1 o2 o3 w1 w2 w3
    simp -implicitDefEqProofs (maxSteps := 1000000) only [go_sem, seval, *]
    repeat' (first | (with_reducible refine at_seq (by with_unfolding_all exact rfl) ?_) | ((first | (with_reducible refine at_plain (by with_unfolding_all exact rfl) ?_) | (with_reducible refine at_draw (by with_unfolding_all exact rfl) ?_) | (with_reducible refine at_cond (by with_unfolding_all exact rfl) ?_) | (with_reducible refine at_exit (by with_unfolding_all exact rfl) ?_) | (with_reducible refine at_ret (by with_unfolding_all exact rfl) ?_) | (with_reducible refine at_skip (by with_unfolding_all exact rfl) ?_) | (with_reducible refine at_label (by with_unfolding_all exact rfl) ?_)) <;> try simp -implicitDefEqProofs (maxSteps := 1000000) only [go_sem, seval, *]) | (with_reducible refine at_block (by with_unfolding_all exact rfl) ?_) | (with_reducible refine at_loop (by with_unfolding_all exact rfl) ?_) | ((first | ((with_reducible refine NewK.intro fun g hg hn => ?_) <;> try simp only [own_none_iff] at hn) | ((with_reducible refine GuardB.split (fun hc => ?_) (fun hc => ?_)) <;> (have hc2 := hc; try simp only [beq_eq_false_iff_ne, beq_iff_eq, ne_eq, bne_iff_ne, bne_eq_false_iff_eq, decide_eq_true_eq, decide_eq_false_iff_not, Bool.not_true, Bool.not_false, Int.not_le, Int.not_lt] at hc2)) | ((with_reducible refine CondK.split (fun hc => ?_) (fun hc => ?_)) <;> (have hc2 := hc; try simp only [beq_eq_false_iff_ne, beq_iff_eq, ne_eq, bne_iff_ne, bne_eq_false_iff_eq, decide_eq_true_eq, decide_eq_false_iff_not, Bool.not_true, Bool.not_false, Int.not_le, Int.not_lt] at hc2)) | ((with_reducible refine PickK.split (fun hc => ?_) (fun hc => ?_)) <;> (have hc2 := hc; try simp only [beq_eq_false_iff_ne, beq_iff_eq, ne_eq, bne_iff_ne, bne_eq_false_iff_eq, decide_eq_true_eq, decide_eq_false_iff_not, Bool.not_true, Bool.not_false, Int.not_le, Int.not_lt] at hc2)) | (with_reducible refine dop_buildSlice ?_) | (with_reducible refine dop_build ?_) | ((with_reducible refine GuardD.split (fun hc => ?_) (fun hc => ?_)) <;> (have hc2 := hc; try simp only [beq_eq_false_iff_ne, beq_iff_eq, ne_eq, bne_iff_ne, bne_eq_false_iff_eq, decide_eq_true_eq, decide_eq_false_iff_not, Bool.not_true, Bool.not_false, Int.not_le, Int.not_lt] at hc2)) | (with_reducible refine stp_build ?_) | (with_reducible refine stp_buildSlice ?_) | (with_reducible refine stp_store ?_) | (with_reducible refine stp_ns ?_) | (with_reducible refine NsB.intro (fun h' ho K' hk => by simp -implicitDefEqProofs (maxSteps := 1000000) only [go_sem, seval, *] <;> exact hk) ?_) | (with_reducible refine WrB.intro _ (by simp -implicitDefEqProofs (maxSteps := 1000000) only [go_sem, seval, *]) (fun h' ho K' hk => by simp -implicitDefEqProofs (maxSteps := 1000000) only [go_sem, seval, *]; exact hk) (fun h' ho K' hk => by simp -implicitDefEqProofs (maxSteps := 1000000) only [go_sem, seval, *] at hk; exact hk) (fun h' ho hk => by simp -implicitDefEqProofs (maxSteps := 1000000) only [go_sem, seval, *] at hk <;> with_unfolding_all exact False.elim hk) ?_) | (with_reducible refine WrB.intro _ (by simp -implicitDefEqProofs (maxSteps := 1000000) only [go_sem, seval, *]) (fun h' ho K' hk => by simp -implicitDefEqProofs (maxSteps := 1000000) only [go_sem, seval, *]; exact hk) ?_) | ((with_reducible refine DDraw.auto mo ?_ ?_); kernel_rfl)) <;> simp -implicitDefEqProofs (maxSteps := 1000000) only [go_sem, seval, *]) | (with_reducible refine bi_same ?_))
    exact hK.out

end Go.Proofs.Ytlblahfndlgfmaa
