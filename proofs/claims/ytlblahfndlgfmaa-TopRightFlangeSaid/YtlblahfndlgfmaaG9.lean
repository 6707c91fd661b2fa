/-
  Walks. Conditions: none.
-/
import Derived.Test.YtlblahfndlgfmaaG8
set_option linter.unusedVariables false
set_option linter.unusedSimpArgs false
namespace Go.Proofs.Ytlblahfndlgfmaa
open Go.RowKit Go.SL
set_option maxHeartbeats 1000000
set_option maxRecDepth 1000000
attribute [local go_sem] fl_getD fl_get fl_set lk_def st_def gL_nil gL_zero gL_succ sL_nil_zero sL_nil_succ sL_zero sL_succ Option.getD_none FgK_app onlyL_nil onlyL_none onlyL_some setO_some toB_bool toB_undef yl_def
attribute [local go_sem high] GuardK_yl GuardL_yl
attribute [local go_sem] initL_one initL_cons lastL_one lastL_cons LastK_app fin_round Fr.inr_w0 Fr.inr_ro Fr.inr_M cell_inr LoopO_some YieldK_some RoundQ_normal RoundQ_ret RoundQ_exit EndR_none EndR_some BegK_app BegR_some OutR_none OutR_ret OutR_exit LeftR_some LeftK_app
attribute [local go_sem] i64w
attribute [local go_sem] dwp_eqGuardE dwp_eqGuardN rval_eqGuardE rval_eqGuardN
attribute [local go_sem] add_none
/-- The plan of a round. -/
def ordP (xs : List Int) (tq : Int) : List (Int × Int) := xs.map fun i => (i, tq)
def IRd (S0 : Hp) (gf gF gL n gs so sn sc cF cL gb po m pc g5 : Nat) (ld th hd ot0 ot1 oh0 oh1 st0 st1 sp0 sp1 yi0 yi1 nd tq : Int) (T : Nat → FlSt) (k' : Nat) (a : Act) (h : Hp) : Prop :=
  ∃ (j : Nat) (x : Nat → Value), Hold (j + k' = m) ∧ Hold (RunI S0 gf gF gL n gs so sn sc cF cL ld th hd ot0 ot1 oh0 oh1 st0 st1 sp0 sp1 yi0 yi1 nd (T j) h) ∧ a = ⟨fl 19 x [[some (.pointer (some ⟨gf, 0, none⟩)), some (.slice (some ⟨gb, po, none⟩) m pc), none, none, none, some (.pointer (some ⟨g5, 0, none⟩)), none, none, some (.slice (some ⟨gb, po, none⟩) m pc), some (.int .i64 m), some (.int .i64 j)]], []⟩
set_option maxHeartbeats 8000000 in
theorem round_D (F : Fr) (hT : F.top = true) (h S1 : Hp) (K : Value → Hp → Prop) (n m : Nat) (gf gs so sn sc gF cF gL cL gb po pc : Nat) (ld th hd ot0 ot1 oh0 oh1 st0 st1 sp0 sp1 yi0 yi1 nd tq : Int) (sh : List Int) (s0 : FlSt) (xs : List Int)
    (hN : Hold (3 ≤ n ∧ n ≤ 12 ∧ sn = n / 2)) (hm : Hold (m ≤ 200 ∧ xs.length = m)) (hg : Hold (gE ld th hd ot0 ot1 oh0 oh1 st0 st1 sp0 sp1 yi0 yi1 tq = 0)) (hp : Hold (∀ x ∈ xs, 0 ≤ x ∧ x < n)) (hf : Hold (FBd s0.1 100000000)) (hl : Hold (FBd s0.2.1 0))
    (hs : Hold (∀ j, 0 ≤ shareV sh n j ∧ shareV sh n j ≤ 500)) (dF : S1.own gF = none) (dL : S1.own gL = none) (df : S1.own gf = none)
    (hq : gf ≠ gF ∧ gF ≠ gf ∧ gf ≠ gL ∧ gL ≠ gf ∧ gF ≠ gL ∧ gL ≠ gF) (hsh : Hold (readI (S1.cell? F) gs so sn = some sh)) (hpl : Hold (readI (S1.cell? F) gb po m = some xs)) (z1 : F.w0.heap.size ≤ gf) (z2 : F.w0.heap.size ≤ gF) (z3 : F.w0.heap.size ≤ gL)
    (hI : Hold (RunI S1 gf gF gL n gs so sn sc cF cL ld th hd ot0 ot1 oh0 oh1 st0 st1 sp0 sp1 yi0 yi1 nd s0 h)) (hK : Hold (∀ h', RunI S1 gf gF gL n gs so sn sc cF cL ld th hd ot0 ot1 oh0 oh1 st0 st1 sp0 sp1 yi0 yi1 nd (runF ld th hd ot0 ot1 oh0 oh1 st0 st1 sp0 sp1 yi0 yi1 sh n s0 (ordP xs tq)) h' → K (.tuple #[]) h')) :
    DCall Try.prog F 38 #[.pointer (some ⟨gf, 0, none⟩), .slice (some ⟨gb, po, none⟩) m pc, .agg #[.int .i64 (gA ld th hd ot0 ot1 oh0 oh1 st0 st1 sp0 sp1 yi0 yi1 tq), .int .i64 (gB ld th hd ot0 ot1 oh0 oh1 st0 st1 sp0 sp1 yi0 yi1 tq)]] h K := by
  have gbd := g_bd hg.out
  have gbH : Hold ((0 ≤ gA ld th hd ot0 ot1 oh0 oh1 st0 st1 sp0 sp1 yi0 yi1 tq ∧ gA ld th hd ot0 ot1 oh0 oh1 st0 st1 sp0 sp1 yi0 yi1 tq ≤ 100000000) ∧ 0 ≤ gB ld th hd ot0 ot1 oh0 oh1 st0 st1 sp0 sp1 yi0 yi1 tq ∧ gB ld th hd ot0 ot1 oh0 oh1 st0 st1 sp0 sp1 yi0 yi1 tq ≤ 100000000) := ⟨by omega⟩
  clear gbd
  have lenP : (ordP xs tq).length = m := by unfold ordP; rw [List.length_map]; exact hm.out.2
  obtain ⟨T, hT0⟩ : ∃ T : Nat → FlSt, T = fun j => runF ld th hd ot0 ot1 oh0 oh1 st0 st1 sp0 sp1 yi0 yi1 sh n s0 ((ordP xs tq).take j) := ⟨_, rfl⟩
  have t0 : T 0 = s0 := by rw [hT0]; rfl
  have tm : T m = runF ld th hd ot0 ot1 oh0 oh1 st0 st1 sp0 sp1 yi0 yi1 sh n s0 (ordP xs tq) := by rw [hT0]; dsimp only; rw [List.take_of_length_le (by omega)]
  have okP : ∀ p ∈ ordP xs tq, okSt ld th hd ot0 ot1 oh0 oh1 st0 st1 sp0 sp1 yi0 yi1 n p := fun p hp0 => by
    unfold ordP at hp0
    obtain ⟨i, hi, rfl⟩ := List.mem_map.1 hp0
    exact ⟨hp.out i hi, hg.out⟩
  have tb : ∀ j, j < m → FBd (T j).1 100000000 ∧ FBd (T j).2.1 (0 + j * 600000012) := fun j hj => by
    have := runF_bd (sh := sh) (by have := hN.out; omega) hs.out ((ordP xs tq).take j) s0 0 (fun p h => okP p (List.mem_of_mem_take h)) hf.out (by omega) hl.out
    rw [List.length_take, Nat.min_eq_left (by omega)] at this
    rw [hT0]
    exact this
  have ts : ∀ j x, xs[j]? = some x → T (j + 1) = stF ld th hd ot0 ot1 oh0 oh1 st0 st1 sp0 sp1 yi0 yi1 sh n (T j) (x, tq) := fun j x e => by
    rw [hT0]
    exact runF_take (by unfold ordP; rw [List.getElem?_map, e]; rfl)
  replace tb := Hold.mk tb
  replace ts := Hold.mk ts
  replace tm := Hold.mk tm
  clear hT0 lenP okP
  (refine DCall.inlP (l := _) Try.func38 Try.ntmps38 rfl rfl (by simp only [seval, List.length_cons, List.length_nil]) (by simp only [seval, List.length_cons, List.length_nil]) ?_; simp only [Try.results38, List.map_cons, List.map_nil])
  repeat' (first | (with_reducible refine at_seq (by with_unfolding_all exact rfl) ?_) | ((first | (with_reducible refine at_plain (by with_unfolding_all exact rfl) ?_) | (with_reducible refine at_draw (by with_unfolding_all exact rfl) ?_) | (with_reducible refine at_cond (by with_unfolding_all exact rfl) ?_) | (with_reducible refine at_exit (by with_unfolding_all exact rfl) ?_) | (with_reducible refine at_ret (by with_unfolding_all exact rfl) ?_) | (with_reducible refine at_skip (by with_unfolding_all exact rfl) ?_) | (with_reducible refine at_label (by with_unfolding_all exact rfl) ?_)) <;> try simp -implicitDefEqProofs (maxSteps := 1000000) only [go_sem, seval, *]) | (with_reducible refine at_block (by with_unfolding_all exact rfl) ?_) | (with_reducible refine at_loop (by with_unfolding_all exact rfl) ?_) | ((first | ((with_reducible refine NewK.intro fun g hg hn => ?_) <;> try simp only [own_none_iff] at hn) | ((with_reducible refine GuardB.split (fun hc => ?_) (fun hc => ?_)) <;> (have hc2 := hc; try simp only [beq_eq_false_iff_ne, beq_iff_eq, ne_eq, bne_iff_ne, bne_eq_false_iff_eq, decide_eq_true_eq, decide_eq_false_iff_not, Bool.not_true, Bool.not_false, Int.not_le, Int.not_lt] at hc2)) | ((with_reducible refine CondK.split (fun hc => ?_) (fun hc => ?_)) <;> (have hc2 := hc; try simp only [beq_eq_false_iff_ne, beq_iff_eq, ne_eq, bne_iff_ne, bne_eq_false_iff_eq, decide_eq_true_eq, decide_eq_false_iff_not, Bool.not_true, Bool.not_false, Int.not_le, Int.not_lt] at hc2)) | ((with_reducible refine PickK.split (fun hc => ?_) (fun hc => ?_)) <;> (have hc2 := hc; try simp only [beq_eq_false_iff_ne, beq_iff_eq, ne_eq, bne_iff_ne, bne_eq_false_iff_eq, decide_eq_true_eq, decide_eq_false_iff_not, Bool.not_true, Bool.not_false, Int.not_le, Int.not_lt] at hc2)) | (with_reducible refine dop_buildSlice ?_) | (with_reducible refine dop_build ?_) | ((with_reducible refine GuardD.split (fun hc => ?_) (fun hc => ?_)) <;> (have hc2 := hc; try simp only [beq_eq_false_iff_ne, beq_iff_eq, ne_eq, bne_iff_ne, bne_eq_false_iff_eq, decide_eq_true_eq, decide_eq_false_iff_not, Bool.not_true, Bool.not_false, Int.not_le, Int.not_lt] at hc2)) | (with_reducible refine stp_build ?_) | (with_reducible refine stp_buildSlice ?_) | (with_reducible refine stp_store ?_) | (with_reducible refine stp_ns ?_) | (with_reducible refine NsB.intro (fun h' ho K' hk => by simp -implicitDefEqProofs (maxSteps := 1000000) only [go_sem, seval, *] <;> exact hk) ?_) | (with_reducible refine WrB.intro _ (by simp -implicitDefEqProofs (maxSteps := 1000000) only [go_sem, seval, *]) (fun h' ho K' hk => by simp -implicitDefEqProofs (maxSteps := 1000000) only [go_sem, seval, *]; exact hk) (fun h' ho K' hk => by simp -implicitDefEqProofs (maxSteps := 1000000) only [go_sem, seval, *] at hk; exact hk) (fun h' ho hk => by simp -implicitDefEqProofs (maxSteps := 1000000) only [go_sem, seval, *] at hk <;> with_unfolding_all exact False.elim hk) ?_) | (with_reducible refine WrB.intro _ (by simp -implicitDefEqProofs (maxSteps := 1000000) only [go_sem, seval, *]) (fun h' ho K' hk => by simp -implicitDefEqProofs (maxSteps := 1000000) only [go_sem, seval, *]; exact hk) ?_) | ((with_reducible refine DDraw.auto mo ?_ ?_); kernel_rfl)) <;> simp -implicitDefEqProofs (maxSteps := 1000000) only [go_sem, seval, *]) | (with_reducible refine bi_same ?_))
  generalize hgg : g = g5 at *
  clear hgg
  have u0 := hI.out.p0
  have u1 := hI.out.p1
  have u2 := hI.out.p2
  have u3 := hI.out.p3
  have w1 := own_ne u1
  have w2 := own_ne u2
  have w3 := own_ne u3
  have n5 := kept_none u0 hn
  obtain ⟨S0, hS0⟩ : ∃ S0, S0 = S1.set g5 (.cells #[.int .i64 (gA ld th hd ot0 ot1 oh0 oh1 st0 st1 sp0 sp1 yi0 yi1 tq), .int .i64 (gB ld th hd ot0 ot1 oh0 oh1 st0 st1 sp0 sp1 yi0 yi1 tq)] 26) := ⟨_, rfl⟩
  have s5 : S0.own g5 = some (.cells #[.int .i64 (gA ld th hd ot0 ot1 oh0 oh1 st0 st1 sp0 sp1 yi0 yi1 tq), .int .i64 (gB ld th hd ot0 ot1 oh0 oh1 st0 st1 sp0 sp1 yi0 yi1 tq)] 26) := by rw [hS0, Hp.own_set, if_pos rfl]
  have d5F := w2 g5 hn
  have d5L := w3 g5 hn
  have d5f := w1 g5 hn
  have eF : S0.own gF = none := by rw [hS0, Hp.own_set, if_neg d5F.1]; exact dF
  have eL : S0.own gL = none := by rw [hS0, Hp.own_set, if_neg d5L.1]; exact dL
  have ef : S0.own gf = none := by rw [hS0, Hp.own_set, if_neg d5f.1]; exact df
  have sub : ∀ y o, S1.own y = some o → S0.own y = some o := by rw [hS0]; exact sub_setN n5
  have hI0 : Hold (RunI S0 gf gF gL n gs so sn sc cF cL ld th hd ot0 ot1 oh0 oh1 st0 st1 sp0 sp1 yi0 yi1 nd s0 (h.set g5 (.cells #[.int .i64 (gA ld th hd ot0 ot1 oh0 oh1 st0 st1 sp0 sp1 yi0 yi1 tq), .int .i64 (gB ld th hd ot0 ot1 oh0 oh1 st0 st1 sp0 sp1 yi0 yi1 tq)] 26))) := ⟨⟨fun y o e => by
      rw [hS0, Hp.own_set] at e
      rw [Hp.own_set]
      split at e
      · rename_i q; rw [if_pos q]; exact e
      · rename_i q; rw [if_neg q]; exact u0 y o e, by rw [Hp.own_set, if_neg d5f.1]; exact u1, by rw [Hp.own_set, if_neg d5F.1]; exact u2, by rw [Hp.own_set, if_neg d5L.1]; exact u3⟩⟩
  have hsh' : Hold (readI (S0.cell? F) gs so sn = some sh) := ⟨readI_mono (fun a u e => sub_cell sub e) hsh.out⟩
  have hpl' : Hold (readI (S0.cell? F) gb po m = some xs) := ⟨readI_mono (fun a u e => sub_cell sub e) hpl.out⟩
  have hK' : Hold (∀ h', RunI S0 gf gF gL n gs so sn sc cF cL ld th hd ot0 ot1 oh0 oh1 st0 st1 sp0 sp1 yi0 yi1 nd (T m) h' → K (.tuple #[]) h') := ⟨fun h' q => hK.out h' (by rw [← tm.out]; exact ⟨fun y o e => q.p0 y o (sub y o e), q.p1, q.p2, q.p3⟩)⟩
  clear u0 u1 u2 u3 w1 w2 w3 hI hK sub hS0 n5 hsh hpl dF dL df d5F d5L d5f
  refine DLoop.ind (IRd S0 gf gF gL n gs so sn sc cF cL gb po m pc g5 ld th hd ot0 ot1 oh0 oh1 st0 st1 sp0 sp1 yi0 yi1 nd tq T) m ⟨0, _, ⟨by omega⟩, ⟨by rw [t0]; exact hI0.out⟩, fl_re (by kernel_rfl)⟩ ?_
  clear hI0
  (rintro k' a h ⟨j, x, fa0, fa1, rfl⟩)
  have hjm := fa0.out
  obtain ⟨u0, u1, u2, u3⟩ := fa1.out
  have v1 := own_ne u1
  have v2 := own_ne u2
  have v3 := own_ne u3
  have u5 := u0 _ _ s5
  have v5 := own_ne u5
  have jn : (0 : Int) ≤ (j : Int) := by omega
  by_cases hlt : j < m
  · have c1 : ((j : Int) < (m : Int)) = True := by simp only [eq_iff_iff, iff_true]; omega
    have hlp : j < xs.length := by have := hm.out; omega
    have hxi : xs[j]? = some xs[j] := List.getElem?_eq_getElem hlp
    have hro := readI_get hpl'.out _ _ hxi
    have hmem := List.getElem_mem hlp
    generalize xs[j] = x at *
    have r0 := sub_cell u0 hro
    have pk := hp.out x hmem
    have stp1 := ts.out j x hxi
    have bd := tb.out j hlt
    have iw : IntKind.i64.wrap ((j : Int) + 1) = ((j + 1 : Nat) : Int) := by rw [IntWalk.i64_in _ (by have := hm.out; omega)]; push_cast; rfl
    have pe : x = ((x.toNat : Nat) : Int) := by omega
    rw [pe] at r0
    replace pk := Hold.mk pk
    replace bd := Hold.mk bd
    replace stp1 := Hold.mk stp1
    replace hlt := Hold.mk hlt
    clear hxi hmem hlp hro hjm pe
    repeat' (first | (with_reducible refine at_seq (by with_unfolding_all exact rfl) ?_) | ((first | (with_reducible refine at_plain (by with_unfolding_all exact rfl) ?_) | (with_reducible refine at_draw (by with_unfolding_all exact rfl) ?_) | (with_reducible refine at_cond (by with_unfolding_all exact rfl) ?_) | (with_reducible refine at_exit (by with_unfolding_all exact rfl) ?_) | (with_reducible refine at_ret (by with_unfolding_all exact rfl) ?_) | (with_reducible refine at_skip (by with_unfolding_all exact rfl) ?_) | (with_reducible refine at_label (by with_unfolding_all exact rfl) ?_)) <;> try simp -implicitDefEqProofs (maxSteps := 1000000) only [go_sem, seval, *]) | (with_reducible refine at_block (by with_unfolding_all exact rfl) ?_) | (with_reducible refine at_loop (by with_unfolding_all exact rfl) ?_) | ((first | ((with_reducible refine NewK.intro fun g hg hn => ?_) <;> try simp only [own_none_iff] at hn) | ((with_reducible refine GuardB.split (fun hc => ?_) (fun hc => ?_)) <;> (have hc2 := hc; try simp only [beq_eq_false_iff_ne, beq_iff_eq, ne_eq, bne_iff_ne, bne_eq_false_iff_eq, decide_eq_true_eq, decide_eq_false_iff_not, Bool.not_true, Bool.not_false, Int.not_le, Int.not_lt] at hc2)) | ((with_reducible refine CondK.split (fun hc => ?_) (fun hc => ?_)) <;> (have hc2 := hc; try simp only [beq_eq_false_iff_ne, beq_iff_eq, ne_eq, bne_iff_ne, bne_eq_false_iff_eq, decide_eq_true_eq, decide_eq_false_iff_not, Bool.not_true, Bool.not_false, Int.not_le, Int.not_lt] at hc2)) | ((with_reducible refine PickK.split (fun hc => ?_) (fun hc => ?_)) <;> (have hc2 := hc; try simp only [beq_eq_false_iff_ne, beq_iff_eq, ne_eq, bne_iff_ne, bne_eq_false_iff_eq, decide_eq_true_eq, decide_eq_false_iff_not, Bool.not_true, Bool.not_false, Int.not_le, Int.not_lt] at hc2)) | (with_reducible refine dop_buildSlice ?_) | (with_reducible refine dop_build ?_) | ((with_reducible refine GuardD.split (fun hc => ?_) (fun hc => ?_)) <;> (have hc2 := hc; try simp only [beq_eq_false_iff_ne, beq_iff_eq, ne_eq, bne_iff_ne, bne_eq_false_iff_eq, decide_eq_true_eq, decide_eq_false_iff_not, Bool.not_true, Bool.not_false, Int.not_le, Int.not_lt] at hc2)) | (with_reducible refine stp_build ?_) | (with_reducible refine stp_buildSlice ?_) | (with_reducible refine stp_store ?_) | (with_reducible refine stp_ns ?_) | (with_reducible refine NsB.intro (fun h' ho K' hk => by simp -implicitDefEqProofs (maxSteps := 1000000) only [go_sem, seval, *] <;> exact hk) ?_) | (with_reducible refine WrB.intro _ (by simp -implicitDefEqProofs (maxSteps := 1000000) only [go_sem, seval, *]) (fun h' ho K' hk => by simp -implicitDefEqProofs (maxSteps := 1000000) only [go_sem, seval, *]; exact hk) (fun h' ho K' hk => by simp -implicitDefEqProofs (maxSteps := 1000000) only [go_sem, seval, *] at hk; exact hk) (fun h' ho hk => by simp -implicitDefEqProofs (maxSteps := 1000000) only [go_sem, seval, *] at hk <;> with_unfolding_all exact False.elim hk) ?_) | (with_reducible refine WrB.intro _ (by simp -implicitDefEqProofs (maxSteps := 1000000) only [go_sem, seval, *]) (fun h' ho K' hk => by simp -implicitDefEqProofs (maxSteps := 1000000) only [go_sem, seval, *]; exact hk) ?_) | ((with_reducible refine DDraw.auto mo ?_ ?_); kernel_rfl)) <;> simp -implicitDefEqProofs (maxSteps := 1000000) only [go_sem, seval, *]) | (with_reducible refine bi_same ?_))
    have hw := fun g o (e : S0.own g = some o) => own_ne (u0 g o e)
    refine pull_D F hT _ S0 _ n x.toNat _ _ (T j).2.2 (j * 600000012) gf gs so sn sc gF cF gL cL (.int .i64 ld) (.int .i64 th) (.int .i64 hd) (.int .i64 ot0) (.int .i64 ot1) (.int .i64 oh0) (.int .i64 oh1) (.int .i64 st0) (.int .i64 st1) (.int .i64 sp0) (.int .i64 sp1) (.int .i64 yi0) (.int .i64 yi1) (.int .i64 nd) sh (T j).1 (T j).2.1 hN ⟨by have := pk.out; omega⟩ gbH ⟨bd.out.1⟩ ⟨by have := bd.out.2; rwa [Int.zero_add] at this⟩ ⟨by have := hm.out; have := hlt.out; omega⟩ hs ⟨fun g o e => ?_⟩ eF eL ef hq hsh' z1 z2 z3 (by simp -implicitDefEqProofs (maxSteps := 1000000) only [go_sem, seval, *]) (by simp -implicitDefEqProofs (maxSteps := 1000000) only [go_sem, seval, *]) (by simp -implicitDefEqProofs (maxSteps := 1000000) only [go_sem, seval, *]) ⟨?_⟩
    · have a0 := hw g o e
      have a1 := u0 g o e
      simp -implicitDefEqProofs (maxSteps := 1000000) only [go_sem, seval, *]
    · simp -implicitDefEqProofs (maxSteps := 1000000) only [go_sem, seval, *]
      repeat' (first | (with_reducible refine at_seq (by with_unfolding_all exact rfl) ?_) | ((first | (with_reducible refine at_plain (by with_unfolding_all exact rfl) ?_) | (with_reducible refine at_draw (by with_unfolding_all exact rfl) ?_) | (with_reducible refine at_cond (by with_unfolding_all exact rfl) ?_) | (with_reducible refine at_exit (by with_unfolding_all exact rfl) ?_) | (with_reducible refine at_ret (by with_unfolding_all exact rfl) ?_) | (with_reducible refine at_skip (by with_unfolding_all exact rfl) ?_) | (with_reducible refine at_label (by with_unfolding_all exact rfl) ?_)) <;> try simp -implicitDefEqProofs (maxSteps := 1000000) only [go_sem, seval, *]) | (with_reducible refine at_block (by with_unfolding_all exact rfl) ?_) | (with_reducible refine at_loop (by with_unfolding_all exact rfl) ?_) | ((first | ((with_reducible refine NewK.intro fun g hg hn => ?_) <;> try simp only [own_none_iff] at hn) | ((with_reducible refine GuardB.split (fun hc => ?_) (fun hc => ?_)) <;> (have hc2 := hc; try simp only [beq_eq_false_iff_ne, beq_iff_eq, ne_eq, bne_iff_ne, bne_eq_false_iff_eq, decide_eq_true_eq, decide_eq_false_iff_not, Bool.not_true, Bool.not_false, Int.not_le, Int.not_lt] at hc2)) | ((with_reducible refine CondK.split (fun hc => ?_) (fun hc => ?_)) <;> (have hc2 := hc; try simp only [beq_eq_false_iff_ne, beq_iff_eq, ne_eq, bne_iff_ne, bne_eq_false_iff_eq, decide_eq_true_eq, decide_eq_false_iff_not, Bool.not_true, Bool.not_false, Int.not_le, Int.not_lt] at hc2)) | ((with_reducible refine PickK.split (fun hc => ?_) (fun hc => ?_)) <;> (have hc2 := hc; try simp only [beq_eq_false_iff_ne, beq_iff_eq, ne_eq, bne_iff_ne, bne_eq_false_iff_eq, decide_eq_true_eq, decide_eq_false_iff_not, Bool.not_true, Bool.not_false, Int.not_le, Int.not_lt] at hc2)) | (with_reducible refine dop_buildSlice ?_) | (with_reducible refine dop_build ?_) | ((with_reducible refine GuardD.split (fun hc => ?_) (fun hc => ?_)) <;> (have hc2 := hc; try simp only [beq_eq_false_iff_ne, beq_iff_eq, ne_eq, bne_iff_ne, bne_eq_false_iff_eq, decide_eq_true_eq, decide_eq_false_iff_not, Bool.not_true, Bool.not_false, Int.not_le, Int.not_lt] at hc2)) | (with_reducible refine stp_build ?_) | (with_reducible refine stp_buildSlice ?_) | (with_reducible refine stp_store ?_) | (with_reducible refine stp_ns ?_) | (with_reducible refine NsB.intro (fun h' ho K' hk => by simp -implicitDefEqProofs (maxSteps := 1000000) only [go_sem, seval, *] <;> exact hk) ?_) | (with_reducible refine WrB.intro _ (by simp -implicitDefEqProofs (maxSteps := 1000000) only [go_sem, seval, *]) (fun h' ho K' hk => by simp -implicitDefEqProofs (maxSteps := 1000000) only [go_sem, seval, *]; exact hk) (fun h' ho K' hk => by simp -implicitDefEqProofs (maxSteps := 1000000) only [go_sem, seval, *] at hk; exact hk) (fun h' ho hk => by simp -implicitDefEqProofs (maxSteps := 1000000) only [go_sem, seval, *] at hk <;> with_unfolding_all exact False.elim hk) ?_) | (with_reducible refine WrB.intro _ (by simp -implicitDefEqProofs (maxSteps := 1000000) only [go_sem, seval, *]) (fun h' ho K' hk => by simp -implicitDefEqProofs (maxSteps := 1000000) only [go_sem, seval, *]; exact hk) ?_) | ((with_reducible refine DDraw.auto mo ?_ ?_); kernel_rfl)) <;> simp -implicitDefEqProofs (maxSteps := 1000000) only [go_sem, seval, *]) | (with_reducible refine bi_same ?_))
      have hj := hlt.out
      have hk0 := fa0.out
      refine LoopK.intro (k' - 1) (by omega) ⟨j + 1, _, ⟨by omega⟩, ⟨?_⟩, fl_re (by kernel_rfl)⟩
      rw [stp1.out]
      have o := fun (x y z : Obj) => set3_own (S0 := S0) (a := gF) (b := gL) (c := gf) (x := x) (y := y) (z := z) hq.2.2.2.2.1 hq.2.1 hq.2.2.2.1
      exact ⟨set3_sub eF eL ef, (o _ _ _).2.2, (o _ _ _).1, (o _ _ _).2.1⟩
  · have c1 : ((j : Int) < (m : Int)) = False := by simp only [eq_iff_iff, iff_false]; omega
    obtain rfl : j = m := by omega
    have hfin := Hold.mk (hK'.out h fa1.out)
    clear hjm hlt
    repeat' (first | (with_reducible refine at_seq (by with_unfolding_all exact rfl) ?_) | ((first | (with_reducible refine at_plain (by with_unfolding_all exact rfl) ?_) | (with_reducible refine at_draw (by with_unfolding_all exact rfl) ?_) | (with_reducible refine at_cond (by with_unfolding_all exact rfl) ?_) | (with_reducible refine at_exit (by with_unfolding_all exact rfl) ?_) | (with_reducible refine at_ret (by with_unfolding_all exact rfl) ?_) | (with_reducible refine at_skip (by with_unfolding_all exact rfl) ?_) | (with_reducible refine at_label (by with_unfolding_all exact rfl) ?_)) <;> try simp -implicitDefEqProofs (maxSteps := 1000000) only [go_sem, seval, *]) | (with_reducible refine at_block (by with_unfolding_all exact rfl) ?_) | (with_reducible refine at_loop (by with_unfolding_all exact rfl) ?_) | ((first | ((with_reducible refine NewK.intro fun g hg hn => ?_) <;> try simp only [own_none_iff] at hn) | ((with_reducible refine GuardB.split (fun hc => ?_) (fun hc => ?_)) <;> (have hc2 := hc; try simp only [beq_eq_false_iff_ne, beq_iff_eq, ne_eq, bne_iff_ne, bne_eq_false_iff_eq, decide_eq_true_eq, decide_eq_false_iff_not, Bool.not_true, Bool.not_false, Int.not_le, Int.not_lt] at hc2)) | ((with_reducible refine CondK.split (fun hc => ?_) (fun hc => ?_)) <;> (have hc2 := hc; try simp only [beq_eq_false_iff_ne, beq_iff_eq, ne_eq, bne_iff_ne, bne_eq_false_iff_eq, decide_eq_true_eq, decide_eq_false_iff_not, Bool.not_true, Bool.not_false, Int.not_le, Int.not_lt] at hc2)) | ((with_reducible refine PickK.split (fun hc => ?_) (fun hc => ?_)) <;> (have hc2 := hc; try simp only [beq_eq_false_iff_ne, beq_iff_eq, ne_eq, bne_iff_ne, bne_eq_false_iff_eq, decide_eq_true_eq, decide_eq_false_iff_not, Bool.not_true, Bool.not_false, Int.not_le, Int.not_lt] at hc2)) | (with_reducible refine dop_buildSlice ?_) | (with_reducible refine dop_build ?_) | ((with_reducible refine GuardD.split (fun hc => ?_) (fun hc => ?_)) <;> (have hc2 := hc; try simp only [beq_eq_false_iff_ne, beq_iff_eq, ne_eq, bne_iff_ne, bne_eq_false_iff_eq, decide_eq_true_eq, decide_eq_false_iff_not, Bool.not_true, Bool.not_false, Int.not_le, Int.not_lt] at hc2)) | (with_reducible refine stp_build ?_) | (with_reducible refine stp_buildSlice ?_) | (with_reducible refine stp_store ?_) | (with_reducible refine stp_ns ?_) | (with_reducible refine NsB.intro (fun h' ho K' hk => by simp -implicitDefEqProofs (maxSteps := 1000000) only [go_sem, seval, *] <;> exact hk) ?_) | (with_reducible refine WrB.intro _ (by simp -implicitDefEqProofs (maxSteps := 1000000) only [go_sem, seval, *]) (fun h' ho K' hk => by simp -implicitDefEqProofs (maxSteps := 1000000) only [go_sem, seval, *]; exact hk) (fun h' ho K' hk => by simp -implicitDefEqProofs (maxSteps := 1000000) only [go_sem, seval, *] at hk; exact hk) (fun h' ho hk => by simp -implicitDefEqProofs (maxSteps := 1000000) only [go_sem, seval, *] at hk <;> with_unfolding_all exact False.elim hk) ?_) | (with_reducible refine WrB.intro _ (by simp -implicitDefEqProofs (maxSteps := 1000000) only [go_sem, seval, *]) (fun h' ho K' hk => by simp -implicitDefEqProofs (maxSteps := 1000000) only [go_sem, seval, *]; exact hk) ?_) | ((with_reducible refine DDraw.auto mo ?_ ?_); kernel_rfl)) <;> simp -implicitDefEqProofs (maxSteps := 1000000) only [go_sem, seval, *]) | (with_reducible refine bi_same ?_))
    exact hfin.out

end Go.Proofs.Ytlblahfndlgfmaa
