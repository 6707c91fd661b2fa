/-
  Walks. Conditions: none.
-/
import Derived.Test.YtlbpfmnobapidaaD26
set_option linter.unusedVariables false
set_option linter.unusedSimpArgs false
namespace Go.Proofs.Ytlbpfmnobapidaa
open Go.RowKit Go.SL
set_option maxHeartbeats 1000000
set_option maxRecDepth 1000000
attribute [local go_sem] fl_getD fl_get fl_set lk_def st_def gL_nil gL_zero gL_succ sL_nil_zero sL_nil_succ sL_zero sL_succ Option.getD_none FgK_app onlyL_nil onlyL_none onlyL_some setO_some toB_bool toB_undef yl_def
attribute [local go_sem high] GuardK_yl GuardL_yl
attribute [local go_sem] initL_one initL_cons lastL_one lastL_cons LastK_app fin_round Fr.inr_w0 Fr.inr_ro Fr.inr_M cell_inr LoopO_some YieldK_some RoundQ_normal RoundQ_ret RoundQ_exit EndR_none EndR_some BegK_app BegR_some OutR_none OutR_ret OutR_exit LeftR_some LeftK_app
attribute [local go_sem] i64w
attribute [local go_sem] dwp_eqGuardE dwp_eqGuardN rval_eqGuardE rval_eqGuardN
attribute [local go_sem] add_none
theorem fldDT {F : Fr} {h : Hp} {K : Value → Hp → Prop} {a b c d e : Value} {p : Option Addr} {n m : Nat} : dwp Try.prog F (Instr.field 26 (.agg #[a, b, c, d, e, .slice p n m]) 3) h K = K (.slice p n m) h := by
  simp [Instr.field, part, dwp_bind', dwp_pure', BindK_app, dwp_underlying, Try.underlying26, OptK_some, dwp_agg_of Try.isAgg24, asAgg]
attribute [local go_sem] fldDT
/-- Four bytes. -/
structure Q4 where
  a : Int
  b : Int
  c : Int
  d : Int
deriving Inhabited
def u8D (q : Q4) : List Value := [.int .u8 q.a, .int .u8 q.b, .int .u8 q.c, .int .u8 q.d]
theorem u8D_len (q : Q4) : (u8D q).length = 4 := rfl
def q4 : Q4 := ⟨3, 0, 100, 200⟩
def Byte4 (q : Q4) : Prop := Byte q.a ∧ Byte q.b ∧ Byte q.c ∧ Byte q.d
/-- The orders, of bytes. -/
def oF (st : Nat) (q : Q4) : Ord := ⟨1 + q.a % 30, q.b % (st : Int), 10000 + q.c % 60, 10000 + q.c % 60 + q.d⟩
def ordN (ol : List Q4) : Nat := max 1 (min 5 ol.length)
def ordL (st : Nat) (ol : List Q4) (n : Nat) : List Ord := (List.range n).map fun i => oF st (ol.getD i q4)
theorem ordL_succ (st : Nat) (ol : List Q4) (n : Nat) : ordL st ol (n + 1) = ordL st ol n ++ [oF st (ol.getD n q4)] := by
  unfold ordL
  rw [List.range_succ, List.map_append]
  rfl
theorem ordL_len (st : Nat) (ol : List Q4) (n : Nat) : (ordL st ol n).length = n := by simp [ordL]
theorem oF_q4 (st : Nat) : oF st q4 = ⟨4, 0, 10040, 10240⟩ := by unfold oF q4; simp
theorem one_ord (a b c d : Int) : ∀ z ∈ [Value.int .i64 a, Value.int .i64 b, Value.int .i64 c, Value.int .i64 d], notAgg z = true := by
  intro z hz
  simp only [List.mem_cons, List.not_mem_nil, or_false] at hz
  rcases hz with rfl | rfl | rfl | rfl <;> rfl
/-- A tool, with what it is made of. -/
theorem stool_R (F : Fr) (h : Hp) (K : Value → Hp → Prop) (dn : Bool) (a0 a1 : Int) (pW : Option Addr) (nW cW : Nat) (pO : Option Addr) (nO cO : Nat) (pT : Option Addr) (nT cT : Nat) (wl : List (Int × Int)) (hx : Hold (RdS F.ro pW nW 2 (wl.flatMap u8C))) (hB : Hold (∀ w ∈ wl, Byte w.1 ∧ Byte w.2)) (hA : Hold (Byte a0 ∧ Byte a1)) (hn0 : Hold (nW ≤ 9223372036854775807))
    (hK : ∀ g (x : Nat × List Value), F.w0.heap.size ≤ g → h.own g = none → K (.agg #[.bool dn, .int .i64 (-(a0 % 20)), .int .i64 (a0 / 16), .int .i64 (-(a1 % 10)), .int .i64 (a1 / 32), .slice (some ⟨g, 0, none⟩) (toolN wl) x.1]) (h.set g (.cells ((toolW wl (toolN wl)).flatMap spC ++ x.2).toArray 23 (0, 0)))) :
    DCall Try.prog F 48 #[.agg #[.bool dn, .int .u8 a0, .int .u8 a1, .slice pW nW cW, .slice pO nO cO, .slice pT nT cT]] h K := by
  refine DCall.weak (stool_S F h _ dn a0 a1 pW nW cW pO nO cO pT nT cT wl hx hB hA hn0 ⟨fun g c h' s n o => ?_⟩)
  rcases o.2 with ⟨e, _⟩ | ⟨g', cap, tl, e, e1, e2, e3⟩
  · cases e
  · cases e
    exact ⟨h.set g (.cells ((toolW wl (toolN wl)).flatMap spC ++ tl).toArray 23 (0, 0)), sub_put s e2, hK g (c, tl) e1 n⟩
def IOr (g1 : Nat) (dn : Bool) (a0 a1 : Int) (pW : Option Addr) (nW cW : Nat) (pO : Option Addr) (nO cO : Nat) (pT : Option Addr) (nT cT : Nat) (m st : Nat) (ol : List Q4) (F : Fr) (h0 : Hp) (k' : Nat) (a : Act) (h : Hp) : Prop :=
  ∃ (i gv cv : Nat) (x : Nat → Value), Hold (i + k' = m) ∧ Hold (∀ y o, h0.own y = some o → h.own y = some o) ∧ h.own g1 = some (.cells #[.bool dn, .int .u8 a0, .int .u8 a1, .slice pW nW cW, .slice pO nO cO, .slice pT nT cT] 79) ∧ Hold (Own F h 88 4 (.slice (some ⟨gv, 0, none⟩) i cv) i ((ordL st ol i).flatMap oC)) ∧ Hold (h0.own gv = none ∧ gv ≠ g1) ∧ a = ⟨fl 66 x [[none, some (.pointer (some ⟨g1, 0, none⟩)), none, some (.slice (some ⟨gv, 0, none⟩) i cv), some (.int .i64 st), some (.int .i64 i)]], []⟩
set_option maxHeartbeats 8000000 in
theorem sorders_S (F : Fr) (h0 : Hp) (K : Value → Hp → Prop) (dn : Bool) (a0 a1 : Int) (pW : Option Addr) (nW cW : Nat) (pO : Option Addr) (nO cO : Nat) (pT : Option Addr) (nT cT : Nat) (wl : List (Int × Int)) (ol : List Q4) (hx : Hold (RdS F.ro pW nW 2 (wl.flatMap u8C))) (hB : Hold (∀ w ∈ wl, Byte w.1 ∧ Byte w.2)) (hA : Hold (Byte a0 ∧ Byte a1)) (hn0 : Hold (nW ≤ 9223372036854775807))
    (hy : Hold (RdS F.ro pO nO 4 (ol.flatMap u8D))) (hC : Hold (∀ q ∈ ol, Byte4 q)) (hn1O : Hold (nO ≤ 9223372036854775807))
    (hK : Hold (∀ g c h', (∀ y o, h0.own y = some o → h'.own y = some o) → h0.own g = none → Own F h' 88 4 (.slice (some ⟨g, 0, none⟩) (ordN ol) c) (ordN ol) ((ordL (toolN wl) ol (ordN ol)).flatMap oC) → K (.slice (some ⟨g, 0, none⟩) (ordN ol) c) h')) :
    DCall Try.prog F 49 #[.agg #[.bool dn, .int .u8 a0, .int .u8 a1, .slice pW nW cW, .slice pO nO cO, .slice pT nT cT]] h0 K := by
  have hlen := Hold.mk (hy.out.count u8D_len (by decide))
  have htl : Hold (∀ (h : Hp) (K : Value → Hp → Prop), (∀ (v : Option Addr × Nat) h', (∀ y o, h.own y = some o → h'.own y = some o) → K (.agg #[.bool dn, .int .i64 (-(a0 % 20)), .int .i64 (a0 / 16), .int .i64 (-(a1 % 10)), .int .i64 (a1 / 32), .slice v.1 (toolN wl) v.2]) h') → DCall Try.prog F 48 #[.agg #[.bool dn, .int .u8 a0, .int .u8 a1, .slice pW nW cW, .slice pO nO cO, .slice pT nT cT]] h K) :=
    ⟨fun h K hK => stool_S F h K dn a0 a1 pW nW cW pO nO cO pT nT cT wl hx hB hA hn0 ⟨fun g c h' s _ _ => hK (some ⟨g, 0, none⟩, c) h' s⟩⟩
  have sb : 1 ≤ toolN wl ∧ toolN wl ≤ 3 := by unfold toolN; omega
  generalize toolN wl = st at *
  have sbH := Hold.mk sb
  have mb : 1 ≤ ordN ol ∧ ordN ol ≤ 5 := by unfold ordN; omega
  have mbH := Hold.mk mb
  clear hx hB hA hn0 sb mb
  (refine DCall.inlP (l := _) Try.func49 Try.ntmps49 rfl rfl (by simp only [seval, List.length_cons, List.length_nil]) (by simp only [seval, List.length_cons, List.length_nil]) ?_; simp only [Try.results49, List.map_cons, List.map_nil])
  repeat' (first | (with_reducible refine at_seq (by with_unfolding_all exact rfl) ?_) | ((with_reducible first | refine at_plain (by with_unfolding_all exact rfl) ?_ | refine at_draw (by with_unfolding_all exact rfl) ?_ | refine at_cond (by with_unfolding_all exact rfl) ?_ | refine at_exit (by with_unfolding_all exact rfl) ?_ | refine at_ret (by with_unfolding_all exact rfl) ?_ | refine at_skip (by with_unfolding_all exact rfl) ?_ | refine at_label (by with_unfolding_all exact rfl) ?_) <;> try simp -implicitDefEqProofs (maxSteps := 1000000) only [go_sem, seval, *]) | (with_reducible first | refine at_block (by with_unfolding_all exact rfl) ?_ | refine at_loop (by with_unfolding_all exact rfl) ?_) | ((first | ((with_reducible refine NewK.intro fun g hg hn => ?_) <;> try simp only [own_none_iff] at hn) | ((with_reducible first | refine GuardB.split (fun hc => ?_) (fun hc => ?_) | refine CondK.split (fun hc => ?_) (fun hc => ?_) | refine PickK.split (fun hc => ?_) (fun hc => ?_) | refine GuardD.split (fun hc => ?_) (fun hc => ?_)) <;> (have hc2 := hc; try simp only [beq_eq_false_iff_ne, beq_iff_eq, ne_eq, bne_iff_ne, bne_eq_false_iff_eq, decide_eq_true_eq, decide_eq_false_iff_not, Bool.not_true, Bool.not_false, Int.not_le, Int.not_lt] at hc2)) | (with_reducible first | refine dop_buildSlice ?_ | refine dop_build ?_) | ((with_reducible refine DDraw.told (id := 9) [] [.tmp 3] mo ?_ ?_); kernel_rfl) | (with_reducible first | refine stp_build ?_ | refine stp_buildSlice ?_ | refine stp_store ?_ | refine stp_ns ?_) | (with_reducible refine NsB.intro (fun h' ho K' hk => by simp -implicitDefEqProofs (maxSteps := 1000000) only [go_sem, seval, *] <;> exact hk) ?_) | (with_reducible refine WrB.intro _ (by simp -implicitDefEqProofs (maxSteps := 1000000) only [go_sem, seval, *]) (fun h' ho K' hk => by simp -implicitDefEqProofs (maxSteps := 1000000) only [go_sem, seval, *]; exact hk) (fun h' ho K' hk => by simp -implicitDefEqProofs (maxSteps := 1000000) only [go_sem, seval, *] at hk; exact hk) (fun h' ho hk => by simp -implicitDefEqProofs (maxSteps := 1000000) only [go_sem, seval, *] at hk <;> with_unfolding_all exact False.elim hk) ?_) | (with_reducible refine WrB.intro _ (by simp -implicitDefEqProofs (maxSteps := 1000000) only [go_sem, seval, *]) (fun h' ho K' hk => by simp -implicitDefEqProofs (maxSteps := 1000000) only [go_sem, seval, *]; exact hk) ?_) | ((with_reducible refine DDraw.auto mo ?_ ?_); kernel_rfl)) <;> simp -implicitDefEqProofs (maxSteps := 1000000) only [go_sem, seval, *]) | (with_reducible refine bi_same ?_))
  rename_i g1 hg1 hn1
  generalize hgg : g = g8 at *
  clear hgg
  have m1 := hn.2.2
  refine htl.out _ _ fun v h sh => ?_
  have v1 := sh g1 (.cells #[.bool dn, .int .u8 a0, .int .u8 a1, .slice pW nW cW, .slice pO nO cO, .slice pT nT cT] 79) (by simp -implicitDefEqProofs (maxSteps := 1000000) only [go_sem, seval, *])
  have v8 := sh g8 (.cells #[] 88) (by simp -implicitDefEqProofs (maxSteps := 1000000) only [go_sem, seval, *])
  have n18 : g8 ≠ g1 ∧ g1 ≠ g8 := ⟨hn.1, hn.2.1⟩
  replace sh := sub_trans (subS (subS sub_refl hn1) m1) sh
  clear htl
  simp -implicitDefEqProofs (maxSteps := 1000000) only [go_sem, seval, *]
  repeat' (first | (with_reducible refine at_seq (by with_unfolding_all exact rfl) ?_) | ((with_reducible first | refine at_plain (by with_unfolding_all exact rfl) ?_ | refine at_draw (by with_unfolding_all exact rfl) ?_ | refine at_cond (by with_unfolding_all exact rfl) ?_ | refine at_exit (by with_unfolding_all exact rfl) ?_ | refine at_ret (by with_unfolding_all exact rfl) ?_ | refine at_skip (by with_unfolding_all exact rfl) ?_ | refine at_label (by with_unfolding_all exact rfl) ?_) <;> try simp -implicitDefEqProofs (maxSteps := 1000000) only [go_sem, seval, *]) | (with_reducible first | refine at_block (by with_unfolding_all exact rfl) ?_ | refine at_loop (by with_unfolding_all exact rfl) ?_) | ((first | ((with_reducible refine NewK.intro fun g hg hn => ?_) <;> try simp only [own_none_iff] at hn) | ((with_reducible first | refine GuardB.split (fun hc => ?_) (fun hc => ?_) | refine CondK.split (fun hc => ?_) (fun hc => ?_) | refine PickK.split (fun hc => ?_) (fun hc => ?_) | refine GuardD.split (fun hc => ?_) (fun hc => ?_)) <;> (have hc2 := hc; try simp only [beq_eq_false_iff_ne, beq_iff_eq, ne_eq, bne_iff_ne, bne_eq_false_iff_eq, decide_eq_true_eq, decide_eq_false_iff_not, Bool.not_true, Bool.not_false, Int.not_le, Int.not_lt] at hc2)) | (with_reducible first | refine dop_buildSlice ?_ | refine dop_build ?_) | ((with_reducible refine DDraw.told (id := 9) [] [.tmp 3] mo ?_ ?_); kernel_rfl) | (with_reducible first | refine stp_build ?_ | refine stp_buildSlice ?_ | refine stp_store ?_ | refine stp_ns ?_) | (with_reducible refine NsB.intro (fun h' ho K' hk => by simp -implicitDefEqProofs (maxSteps := 1000000) only [go_sem, seval, *] <;> exact hk) ?_) | (with_reducible refine WrB.intro _ (by simp -implicitDefEqProofs (maxSteps := 1000000) only [go_sem, seval, *]) (fun h' ho K' hk => by simp -implicitDefEqProofs (maxSteps := 1000000) only [go_sem, seval, *]; exact hk) (fun h' ho K' hk => by simp -implicitDefEqProofs (maxSteps := 1000000) only [go_sem, seval, *] at hk; exact hk) (fun h' ho hk => by simp -implicitDefEqProofs (maxSteps := 1000000) only [go_sem, seval, *] at hk <;> with_unfolding_all exact False.elim hk) ?_) | (with_reducible refine WrB.intro _ (by simp -implicitDefEqProofs (maxSteps := 1000000) only [go_sem, seval, *]) (fun h' ho K' hk => by simp -implicitDefEqProofs (maxSteps := 1000000) only [go_sem, seval, *]; exact hk) ?_) | ((with_reducible refine DDraw.auto mo ?_ ?_); kernel_rfl)) <;> simp -implicitDefEqProofs (maxSteps := 1000000) only [go_sem, seval, *]) | (with_reducible refine bi_same ?_))
  have w8 := own_ne v8
  refine DLoop.ind (IOr g1 dn a0 a1 pW nW cW pO nO cO pT nT cT (ordN ol) st ol F h0) (ordN ol) ⟨0, g8, 0, _, ⟨by omega⟩, ⟨sh⟩, v1, ⟨Own.made (n := 0) (xs := []) hg v8 rfl⟩, ⟨⟨m1, n18.1⟩⟩, fl_re (by kernel_rfl)⟩ ?_
  clear w8 v1 v8 sh hn hg n18 m1
  clear v
  (rintro k' a h ⟨i, gv, cv, x, fa0, fa1, fa2, fa3, fa4, rfl⟩)
  have hj := fa0.out
  have mb := mbH.out
  have hln := hlen.out
  have sb := sbH.out
  have nb : nO ≤ 9223372036854775807 := by have := hn1O.out; exact this
  have u1 := own_ne fa2
  obtain ⟨obv, hov⟩ := fa3.out.owned gv rfl
  have u4 := own_ne hov
  have bv := fa4
  have yv1 := neG bv.out.2
  have z0 : IntKind.i64.wrap ((i : Int) + 1) = ((i + 1 : Nat) : Int) := by rw [IntWalk.i64_in _ (by omega)]; push_cast; rfl
  have zs : ((st : Int) = 0) = False := by simp only [eq_iff_iff, iff_false]; omega
  by_cases hlt : i < ordN ol
  · have il : Hold (i + 1 ≤ 5 ∧ i + 1 ≤ ordN ol) := ⟨by omega⟩
    by_cases hi0 : i = 0
    · have e0 : ((i : Int) == 0) = true := by simp; omega
      by_cases hw : 0 < nO
      · have i1 : ((i : Int) < (nO : Int)) = True := by simp only [eq_iff_iff, iff_true]; omega
        have i0 : (0 : Int) ≤ (i : Int) := by omega
        have hxi : ol[i]? = some ol[i] := List.getElem?_eq_getElem (by omega)
        obtain ⟨b, off, rfl, hro⟩ := hy.out.at u8D_len (show i < nO by omega) hxi
        have r0 := hro 0 _ rfl
        have r1 := hro 1 _ rfl
        have r2 := hro 2 _ rfl
        have r3 := hro 3 _ rfl
        rw [Nat.add_zero] at r0
        have wb := hC.out ol[i] (List.getElem_mem _)
        have wg : ol.getD i q4 = ol[i] := by rw [List.getD_eq_getElem?_getD, hxi]; rfl
        generalize ol[i] = w at *
        unfold Byte4 Byte at wb
        have q0 : IntKind.i64.wrap w.a = w.a := IntWalk.i64_in _ (by omega)
        have q1 : IntKind.i64.wrap w.b = w.b := IntWalk.i64_in _ (by omega)
        have q2 : IntKind.i64.wrap w.c = w.c := IntWalk.i64_in _ (by omega)
        have q3 : IntKind.i64.wrap w.d = w.d := IntWalk.i64_in _ (by omega)
        have p0 : w.a.tmod 30 = w.a % 30 := Int.tmod_eq_emod_of_nonneg wb.1.1
        have p1 : w.b.tmod (st : Int) = w.b % (st : Int) := Int.tmod_eq_emod_of_nonneg wb.2.1.1
        have p2 : w.c.tmod 60 = w.c % 60 := Int.tmod_eq_emod_of_nonneg wb.2.2.1.1
        have p3 : IntKind.i64.wrap (1 + w.a % 30) = 1 + w.a % 30 := IntWalk.i64_in _ (by omega)
        have p4 : IntKind.i64.wrap (10000 + w.c % 60) = 10000 + w.c % 60 := IntWalk.i64_in _ (by omega)
        have p5 : IntKind.i64.wrap (10000 + w.c % 60 + w.d) = 10000 + w.c % 60 + w.d := IntWalk.i64_in _ (by omega)
        clear hi0 hw hlt hro hxi wb hj mb hln nb
        repeat' (first | (with_reducible refine at_seq (by with_unfolding_all exact rfl) ?_) | ((with_reducible first | refine at_plain (by with_unfolding_all exact rfl) ?_ | refine at_draw (by with_unfolding_all exact rfl) ?_ | refine at_cond (by with_unfolding_all exact rfl) ?_ | refine at_exit (by with_unfolding_all exact rfl) ?_ | refine at_ret (by with_unfolding_all exact rfl) ?_ | refine at_skip (by with_unfolding_all exact rfl) ?_ | refine at_label (by with_unfolding_all exact rfl) ?_) <;> try simp -implicitDefEqProofs (maxSteps := 1000000) only [go_sem, seval, *]) | (with_reducible first | refine at_block (by with_unfolding_all exact rfl) ?_ | refine at_loop (by with_unfolding_all exact rfl) ?_) | ((first | ((with_reducible refine DDraw.lastS (id := 9) [] (Hp.drop _ gv) mo ?_ drop_sub ?_); kernel_rfl) | ((with_reducible refine NewK.intro fun g hg hn => ?_) <;> try simp only [own_none_iff] at hn) | ((with_reducible first | refine GuardB.split (fun hc => ?_) (fun hc => ?_) | refine CondK.split (fun hc => ?_) (fun hc => ?_) | refine PickK.split (fun hc => ?_) (fun hc => ?_) | refine GuardD.split (fun hc => ?_) (fun hc => ?_)) <;> (have hc2 := hc; try simp only [beq_eq_false_iff_ne, beq_iff_eq, ne_eq, bne_iff_ne, bne_eq_false_iff_eq, decide_eq_true_eq, decide_eq_false_iff_not, Bool.not_true, Bool.not_false, Int.not_le, Int.not_lt] at hc2)) | (with_reducible first | refine dop_buildSlice ?_ | refine dop_build ?_) | ((with_reducible refine Cr.call (f := 44) (lspan_ok _ _ _) ?_)) | (with_reducible refine CallV.of (f := 44) (lspan_ok _ _ _) ni44 ?_) | ((with_reducible refine DDraw.told (id := 9) [] [.tmp 3] mo ?_ ?_); kernel_rfl) | (with_reducible first | refine stp_build ?_ | refine stp_buildSlice ?_ | refine stp_store ?_ | refine stp_ns ?_) | (with_reducible refine NsB.intro (fun h' ho K' hk => by simp -implicitDefEqProofs (maxSteps := 1000000) only [go_sem, seval, *] <;> exact hk) ?_) | (with_reducible refine WrB.intro _ (by simp -implicitDefEqProofs (maxSteps := 1000000) only [go_sem, seval, *]) (fun h' ho K' hk => by simp -implicitDefEqProofs (maxSteps := 1000000) only [go_sem, seval, *]; exact hk) (fun h' ho K' hk => by simp -implicitDefEqProofs (maxSteps := 1000000) only [go_sem, seval, *] at hk; exact hk) (fun h' ho hk => by simp -implicitDefEqProofs (maxSteps := 1000000) only [go_sem, seval, *] at hk <;> with_unfolding_all exact False.elim hk) ?_) | (with_reducible refine WrB.intro _ (by simp -implicitDefEqProofs (maxSteps := 1000000) only [go_sem, seval, *]) (fun h' ho K' hk => by simp -implicitDefEqProofs (maxSteps := 1000000) only [go_sem, seval, *]; exact hk) ?_) | ((with_reducible refine DDraw.auto mo ?_ ?_); kernel_rfl)) <;> simp -implicitDefEqProofs (maxSteps := 1000000) only [go_sem, seval, *]) | (with_reducible refine bi_same ?_))
        rename_i g5 hg5 hn5
        have gl := hn.2.2
        refine AppD.draw Try.underlying27 inf_ord (by decide) (by decide) (fa3.out.kept fun b ob e1 e2 => by rw [Hp.own_set, if_neg (own_ne e2 g gl).1, Hp.own_set, if_neg (own_ne e2 g5 hn5).1]; exact e2) (ys := [.int .i64 (1 + w.a % 30), .int .i64 (w.b % (st : Int)), .int .i64 (10000 + w.c % 60), .int .i64 (10000 + w.c % 60 + w.d)]) (by simp -implicitDefEqProofs (maxSteps := 1000000) only [go_sem, seval, *]) (one_ord _ _ _ _) (by have := il.out; omega) (fun b e => by cases e; rw [Hp.own_drop, if_pos rfl]) fun u gA obA hA bA r1 => ?_
        have nA : gA ≠ g ∧ gA ≠ g5 ∧ gA ≠ g1 ∧ h0.own gA = none := by
          rcases hA with e | ⟨e, _⟩
          · cases e
            exact ⟨(own_ne hov g gl).1, (own_ne hov g5 hn5).1, bv.out.2, bv.out.1⟩
          · simp only [own_none_iff] at e
            have e2 := e.2.2.2.2
            exact ⟨e.1, e.2.2.1, (u1 gA e2).2, kept_none fa1.out e2⟩
        have y1 := neG nA.1
        have y2 := neG nA.2.1
        have y3 := neG nA.2.2.1
        obtain ⟨pu, cu, rfl⟩ := r1.len
        obtain rfl : pu = some ⟨gA, 0, none⟩ := by
          obtain ⟨g', c', e, _⟩ := r1.some (by omega)
          cases e
          cases bA
          rfl
        have r1' := Hold.mk r1
        clear r1 hA fa3
        simp -implicitDefEqProofs (maxSteps := 1000000) only [go_sem, seval, *]
        repeat' (first | (with_reducible refine at_seq (by with_unfolding_all exact rfl) ?_) | ((with_reducible first | refine at_plain (by with_unfolding_all exact rfl) ?_ | refine at_draw (by with_unfolding_all exact rfl) ?_ | refine at_cond (by with_unfolding_all exact rfl) ?_ | refine at_exit (by with_unfolding_all exact rfl) ?_ | refine at_ret (by with_unfolding_all exact rfl) ?_ | refine at_skip (by with_unfolding_all exact rfl) ?_ | refine at_label (by with_unfolding_all exact rfl) ?_) <;> try simp -implicitDefEqProofs (maxSteps := 1000000) only [go_sem, seval, *]) | (with_reducible first | refine at_block (by with_unfolding_all exact rfl) ?_ | refine at_loop (by with_unfolding_all exact rfl) ?_) | ((first | ((with_reducible refine NewK.intro fun g hg hn => ?_) <;> try simp only [own_none_iff] at hn) | ((with_reducible first | refine GuardB.split (fun hc => ?_) (fun hc => ?_) | refine CondK.split (fun hc => ?_) (fun hc => ?_) | refine PickK.split (fun hc => ?_) (fun hc => ?_) | refine GuardD.split (fun hc => ?_) (fun hc => ?_)) <;> (have hc2 := hc; try simp only [beq_eq_false_iff_ne, beq_iff_eq, ne_eq, bne_iff_ne, bne_eq_false_iff_eq, decide_eq_true_eq, decide_eq_false_iff_not, Bool.not_true, Bool.not_false, Int.not_le, Int.not_lt] at hc2)) | (with_reducible first | refine dop_buildSlice ?_ | refine dop_build ?_) | ((with_reducible refine DDraw.told (id := 9) [] [.tmp 3] mo ?_ ?_); kernel_rfl) | (with_reducible first | refine stp_build ?_ | refine stp_buildSlice ?_ | refine stp_store ?_ | refine stp_ns ?_) | (with_reducible refine NsB.intro (fun h' ho K' hk => by simp -implicitDefEqProofs (maxSteps := 1000000) only [go_sem, seval, *] <;> exact hk) ?_) | (with_reducible refine WrB.intro _ (by simp -implicitDefEqProofs (maxSteps := 1000000) only [go_sem, seval, *]) (fun h' ho K' hk => by simp -implicitDefEqProofs (maxSteps := 1000000) only [go_sem, seval, *]; exact hk) (fun h' ho K' hk => by simp -implicitDefEqProofs (maxSteps := 1000000) only [go_sem, seval, *] at hk; exact hk) (fun h' ho hk => by simp -implicitDefEqProofs (maxSteps := 1000000) only [go_sem, seval, *] at hk <;> with_unfolding_all exact False.elim hk) ?_) | (with_reducible refine WrB.intro _ (by simp -implicitDefEqProofs (maxSteps := 1000000) only [go_sem, seval, *]) (fun h' ho K' hk => by simp -implicitDefEqProofs (maxSteps := 1000000) only [go_sem, seval, *]; exact hk) ?_) | ((with_reducible refine DDraw.auto mo ?_ ?_); kernel_rfl)) <;> simp -implicitDefEqProofs (maxSteps := 1000000) only [go_sem, seval, *]) | (with_reducible refine bi_same ?_))
        have il := il.out
        have hj := fa0.out
        refine LoopK.intro (k' - 1) (by omega) ⟨i + 1, gA, cu, _, ⟨by omega⟩, ⟨subS (subS (subS fa1.out (kept_none fa1.out hn5)) (kept_none fa1.out gl)) nA.2.2.2⟩, (by simp -implicitDefEqProofs (maxSteps := 1000000) only [go_sem, seval, *]), ⟨by rw [ordL_succ, List.flatMap_append, wg]; exact Own.at_ (gA := gA) r1'.out bA (by simp -implicitDefEqProofs (maxSteps := 1000000) only [go_sem, seval, *])⟩, ⟨⟨nA.2.2.2, nA.2.2.1⟩⟩, fl_re (by kernel_rfl)⟩
      · have i1 : ((i : Int) < (nO : Int)) = False := by simp only [eq_iff_iff, iff_false]; omega
        have wg : ol.getD i q4 = q4 := by
          have : ol = [] := List.eq_nil_of_length_eq_zero (by omega)
          rw [this]; rfl
        have p0 : (3 : Int).tmod 30 = 3 := rfl
        have p1 : (0 : Int).tmod (st : Int) = 0 := Int.zero_tmod _
        have p2 : (100 : Int).tmod 60 = 40 := rfl
        clear hj mb hln nb hi0 hw hlt
        repeat' (first | (with_reducible refine at_seq (by with_unfolding_all exact rfl) ?_) | ((with_reducible first | refine at_plain (by with_unfolding_all exact rfl) ?_ | refine at_draw (by with_unfolding_all exact rfl) ?_ | refine at_cond (by with_unfolding_all exact rfl) ?_ | refine at_exit (by with_unfolding_all exact rfl) ?_ | refine at_ret (by with_unfolding_all exact rfl) ?_ | refine at_skip (by with_unfolding_all exact rfl) ?_ | refine at_label (by with_unfolding_all exact rfl) ?_) <;> try simp -implicitDefEqProofs (maxSteps := 1000000) only [go_sem, seval, *]) | (with_reducible first | refine at_block (by with_unfolding_all exact rfl) ?_ | refine at_loop (by with_unfolding_all exact rfl) ?_) | ((first | ((with_reducible refine DDraw.lastS (id := 9) [] (Hp.drop _ gv) mo ?_ drop_sub ?_); kernel_rfl) | ((with_reducible refine NewK.intro fun g hg hn => ?_) <;> try simp only [own_none_iff] at hn) | ((with_reducible first | refine GuardB.split (fun hc => ?_) (fun hc => ?_) | refine CondK.split (fun hc => ?_) (fun hc => ?_) | refine PickK.split (fun hc => ?_) (fun hc => ?_) | refine GuardD.split (fun hc => ?_) (fun hc => ?_)) <;> (have hc2 := hc; try simp only [beq_eq_false_iff_ne, beq_iff_eq, ne_eq, bne_iff_ne, bne_eq_false_iff_eq, decide_eq_true_eq, decide_eq_false_iff_not, Bool.not_true, Bool.not_false, Int.not_le, Int.not_lt] at hc2)) | (with_reducible first | refine dop_buildSlice ?_ | refine dop_build ?_) | ((with_reducible refine Cr.call (f := 44) (lspan_ok _ _ _) ?_)) | (with_reducible refine CallV.of (f := 44) (lspan_ok _ _ _) ni44 ?_) | ((with_reducible refine DDraw.told (id := 9) [] [.tmp 3] mo ?_ ?_); kernel_rfl) | (with_reducible first | refine stp_build ?_ | refine stp_buildSlice ?_ | refine stp_store ?_ | refine stp_ns ?_) | (with_reducible refine NsB.intro (fun h' ho K' hk => by simp -implicitDefEqProofs (maxSteps := 1000000) only [go_sem, seval, *] <;> exact hk) ?_) | (with_reducible refine WrB.intro _ (by simp -implicitDefEqProofs (maxSteps := 1000000) only [go_sem, seval, *]) (fun h' ho K' hk => by simp -implicitDefEqProofs (maxSteps := 1000000) only [go_sem, seval, *]; exact hk) (fun h' ho K' hk => by simp -implicitDefEqProofs (maxSteps := 1000000) only [go_sem, seval, *] at hk; exact hk) (fun h' ho hk => by simp -implicitDefEqProofs (maxSteps := 1000000) only [go_sem, seval, *] at hk <;> with_unfolding_all exact False.elim hk) ?_) | (with_reducible refine WrB.intro _ (by simp -implicitDefEqProofs (maxSteps := 1000000) only [go_sem, seval, *]) (fun h' ho K' hk => by simp -implicitDefEqProofs (maxSteps := 1000000) only [go_sem, seval, *]; exact hk) ?_) | ((with_reducible refine DDraw.auto mo ?_ ?_); kernel_rfl)) <;> simp -implicitDefEqProofs (maxSteps := 1000000) only [go_sem, seval, *]) | (with_reducible refine bi_same ?_))
        rename_i g5 hg5 hn5
        have gl := hn.2.2
        refine AppD.draw Try.underlying27 inf_ord (by decide) (by decide) (fa3.out.kept fun b ob e1 e2 => by rw [Hp.own_set, if_neg (own_ne e2 g gl).1, Hp.own_set, if_neg (own_ne e2 g5 hn5).1]; exact e2) (ys := [.int .i64 (4), .int .i64 (0), .int .i64 (10040), .int .i64 (10240)]) (by simp -implicitDefEqProofs (maxSteps := 1000000) only [go_sem, seval, *]) (one_ord _ _ _ _) (by have := il.out; omega) (fun b e => by cases e; rw [Hp.own_drop, if_pos rfl]) fun u gA obA hA bA r1 => ?_
        have nA : gA ≠ g ∧ gA ≠ g5 ∧ gA ≠ g1 ∧ h0.own gA = none := by
          rcases hA with e | ⟨e, _⟩
          · cases e
            exact ⟨(own_ne hov g gl).1, (own_ne hov g5 hn5).1, bv.out.2, bv.out.1⟩
          · simp only [own_none_iff] at e
            have e2 := e.2.2.2.2
            exact ⟨e.1, e.2.2.1, (u1 gA e2).2, kept_none fa1.out e2⟩
        have y1 := neG nA.1
        have y2 := neG nA.2.1
        have y3 := neG nA.2.2.1
        obtain ⟨pu, cu, rfl⟩ := r1.len
        obtain rfl : pu = some ⟨gA, 0, none⟩ := by
          obtain ⟨g', c', e, _⟩ := r1.some (by omega)
          cases e
          cases bA
          rfl
        have r1' := Hold.mk r1
        clear r1 hA fa3
        simp -implicitDefEqProofs (maxSteps := 1000000) only [go_sem, seval, *]
        repeat' (first | (with_reducible refine at_seq (by with_unfolding_all exact rfl) ?_) | ((with_reducible first | refine at_plain (by with_unfolding_all exact rfl) ?_ | refine at_draw (by with_unfolding_all exact rfl) ?_ | refine at_cond (by with_unfolding_all exact rfl) ?_ | refine at_exit (by with_unfolding_all exact rfl) ?_ | refine at_ret (by with_unfolding_all exact rfl) ?_ | refine at_skip (by with_unfolding_all exact rfl) ?_ | refine at_label (by with_unfolding_all exact rfl) ?_) <;> try simp -implicitDefEqProofs (maxSteps := 1000000) only [go_sem, seval, *]) | (with_reducible first | refine at_block (by with_unfolding_all exact rfl) ?_ | refine at_loop (by with_unfolding_all exact rfl) ?_) | ((first | ((with_reducible refine NewK.intro fun g hg hn => ?_) <;> try simp only [own_none_iff] at hn) | ((with_reducible first | refine GuardB.split (fun hc => ?_) (fun hc => ?_) | refine CondK.split (fun hc => ?_) (fun hc => ?_) | refine PickK.split (fun hc => ?_) (fun hc => ?_) | refine GuardD.split (fun hc => ?_) (fun hc => ?_)) <;> (have hc2 := hc; try simp only [beq_eq_false_iff_ne, beq_iff_eq, ne_eq, bne_iff_ne, bne_eq_false_iff_eq, decide_eq_true_eq, decide_eq_false_iff_not, Bool.not_true, Bool.not_false, Int.not_le, Int.not_lt] at hc2)) | (with_reducible first | refine dop_buildSlice ?_ | refine dop_build ?_) | ((with_reducible refine DDraw.told (id := 9) [] [.tmp 3] mo ?_ ?_); kernel_rfl) | (with_reducible first | refine stp_build ?_ | refine stp_buildSlice ?_ | refine stp_store ?_ | refine stp_ns ?_) | (with_reducible refine NsB.intro (fun h' ho K' hk => by simp -implicitDefEqProofs (maxSteps := 1000000) only [go_sem, seval, *] <;> exact hk) ?_) | (with_reducible refine WrB.intro _ (by simp -implicitDefEqProofs (maxSteps := 1000000) only [go_sem, seval, *]) (fun h' ho K' hk => by simp -implicitDefEqProofs (maxSteps := 1000000) only [go_sem, seval, *]; exact hk) (fun h' ho K' hk => by simp -implicitDefEqProofs (maxSteps := 1000000) only [go_sem, seval, *] at hk; exact hk) (fun h' ho hk => by simp -implicitDefEqProofs (maxSteps := 1000000) only [go_sem, seval, *] at hk <;> with_unfolding_all exact False.elim hk) ?_) | (with_reducible refine WrB.intro _ (by simp -implicitDefEqProofs (maxSteps := 1000000) only [go_sem, seval, *]) (fun h' ho K' hk => by simp -implicitDefEqProofs (maxSteps := 1000000) only [go_sem, seval, *]; exact hk) ?_) | ((with_reducible refine DDraw.auto mo ?_ ?_); kernel_rfl)) <;> simp -implicitDefEqProofs (maxSteps := 1000000) only [go_sem, seval, *]) | (with_reducible refine bi_same ?_))
        have il := il.out
        have hj := fa0.out
        refine LoopK.intro (k' - 1) (by omega) ⟨i + 1, gA, cu, _, ⟨by omega⟩, ⟨subS (subS (subS fa1.out (kept_none fa1.out hn5)) (kept_none fa1.out gl)) nA.2.2.2⟩, (by simp -implicitDefEqProofs (maxSteps := 1000000) only [go_sem, seval, *]), ⟨by rw [ordL_succ, List.flatMap_append, wg, oF_q4]; exact Own.at_ (gA := gA) r1'.out bA (by simp -implicitDefEqProofs (maxSteps := 1000000) only [go_sem, seval, *])⟩, ⟨⟨nA.2.2.2, nA.2.2.1⟩⟩, fl_re (by kernel_rfl)⟩
    · have e0 : ((i : Int) == 0) = false := by simp; omega
      have e3 : ((i : Int) < 5) = True := by simp only [eq_iff_iff, iff_true]; omega
      have hwn : i < nO := by unfold ordN at hlt; omega
      have i1 : ((i : Int) < (nO : Int)) = True := by simp only [eq_iff_iff, iff_true]; omega
      have i0 : (0 : Int) ≤ (i : Int) := by omega
      have hxi : ol[i]? = some ol[i] := List.getElem?_eq_getElem (by omega)
      obtain ⟨b, off, rfl, hro⟩ := hy.out.at u8D_len (show i < nO by omega) hxi
      have r0 := hro 0 _ rfl
      have r1 := hro 1 _ rfl
      have r2 := hro 2 _ rfl
      have r3 := hro 3 _ rfl
      rw [Nat.add_zero] at r0
      have wb := hC.out ol[i] (List.getElem_mem _)
      have wg : ol.getD i q4 = ol[i] := by rw [List.getD_eq_getElem?_getD, hxi]; rfl
      generalize ol[i] = w at *
      unfold Byte4 Byte at wb
      have q0 : IntKind.i64.wrap w.a = w.a := IntWalk.i64_in _ (by omega)
      have q1 : IntKind.i64.wrap w.b = w.b := IntWalk.i64_in _ (by omega)
      have q2 : IntKind.i64.wrap w.c = w.c := IntWalk.i64_in _ (by omega)
      have q3 : IntKind.i64.wrap w.d = w.d := IntWalk.i64_in _ (by omega)
      have p0 : w.a.tmod 30 = w.a % 30 := Int.tmod_eq_emod_of_nonneg wb.1.1
      have p1 : w.b.tmod (st : Int) = w.b % (st : Int) := Int.tmod_eq_emod_of_nonneg wb.2.1.1
      have p2 : w.c.tmod 60 = w.c % 60 := Int.tmod_eq_emod_of_nonneg wb.2.2.1.1
      have p3 : IntKind.i64.wrap (1 + w.a % 30) = 1 + w.a % 30 := IntWalk.i64_in _ (by omega)
      have p4 : IntKind.i64.wrap (10000 + w.c % 60) = 10000 + w.c % 60 := IntWalk.i64_in _ (by omega)
      have p5 : IntKind.i64.wrap (10000 + w.c % 60 + w.d) = 10000 + w.c % 60 + w.d := IntWalk.i64_in _ (by omega)
      clear hi0 hlt hwn hro hxi wb hj mb hln nb
      repeat' (first | (with_reducible refine at_seq (by with_unfolding_all exact rfl) ?_) | ((with_reducible first | refine at_plain (by with_unfolding_all exact rfl) ?_ | refine at_draw (by with_unfolding_all exact rfl) ?_ | refine at_cond (by with_unfolding_all exact rfl) ?_ | refine at_exit (by with_unfolding_all exact rfl) ?_ | refine at_ret (by with_unfolding_all exact rfl) ?_ | refine at_skip (by with_unfolding_all exact rfl) ?_ | refine at_label (by with_unfolding_all exact rfl) ?_) <;> try simp -implicitDefEqProofs (maxSteps := 1000000) only [go_sem, seval, *]) | (with_reducible first | refine at_block (by with_unfolding_all exact rfl) ?_ | refine at_loop (by with_unfolding_all exact rfl) ?_) | ((first | ((with_reducible refine DDraw.lastS (id := 9) [] (Hp.drop _ gv) mo ?_ drop_sub ?_); kernel_rfl) | ((with_reducible refine NewK.intro fun g hg hn => ?_) <;> try simp only [own_none_iff] at hn) | ((with_reducible first | refine GuardB.split (fun hc => ?_) (fun hc => ?_) | refine CondK.split (fun hc => ?_) (fun hc => ?_) | refine PickK.split (fun hc => ?_) (fun hc => ?_) | refine GuardD.split (fun hc => ?_) (fun hc => ?_)) <;> (have hc2 := hc; try simp only [beq_eq_false_iff_ne, beq_iff_eq, ne_eq, bne_iff_ne, bne_eq_false_iff_eq, decide_eq_true_eq, decide_eq_false_iff_not, Bool.not_true, Bool.not_false, Int.not_le, Int.not_lt] at hc2)) | (with_reducible first | refine dop_buildSlice ?_ | refine dop_build ?_) | ((with_reducible refine Cr.call (f := 44) (lspan_ok _ _ _) ?_)) | (with_reducible refine CallV.of (f := 44) (lspan_ok _ _ _) ni44 ?_) | ((with_reducible refine DDraw.told (id := 9) [] [.tmp 3] mo ?_ ?_); kernel_rfl) | (with_reducible first | refine stp_build ?_ | refine stp_buildSlice ?_ | refine stp_store ?_ | refine stp_ns ?_) | (with_reducible refine NsB.intro (fun h' ho K' hk => by simp -implicitDefEqProofs (maxSteps := 1000000) only [go_sem, seval, *] <;> exact hk) ?_) | (with_reducible refine WrB.intro _ (by simp -implicitDefEqProofs (maxSteps := 1000000) only [go_sem, seval, *]) (fun h' ho K' hk => by simp -implicitDefEqProofs (maxSteps := 1000000) only [go_sem, seval, *]; exact hk) (fun h' ho K' hk => by simp -implicitDefEqProofs (maxSteps := 1000000) only [go_sem, seval, *] at hk; exact hk) (fun h' ho hk => by simp -implicitDefEqProofs (maxSteps := 1000000) only [go_sem, seval, *] at hk <;> with_unfolding_all exact False.elim hk) ?_) | (with_reducible refine WrB.intro _ (by simp -implicitDefEqProofs (maxSteps := 1000000) only [go_sem, seval, *]) (fun h' ho K' hk => by simp -implicitDefEqProofs (maxSteps := 1000000) only [go_sem, seval, *]; exact hk) ?_) | ((with_reducible refine DDraw.auto mo ?_ ?_); kernel_rfl)) <;> simp -implicitDefEqProofs (maxSteps := 1000000) only [go_sem, seval, *]) | (with_reducible refine bi_same ?_))
      rename_i g5 hg5 hn5
      have gl := hn.2.2
      refine AppD.draw Try.underlying27 inf_ord (by decide) (by decide) (fa3.out.kept fun b ob e1 e2 => by rw [Hp.own_set, if_neg (own_ne e2 g gl).1, Hp.own_set, if_neg (own_ne e2 g5 hn5).1]; exact e2) (ys := [.int .i64 (1 + w.a % 30), .int .i64 (w.b % (st : Int)), .int .i64 (10000 + w.c % 60), .int .i64 (10000 + w.c % 60 + w.d)]) (by simp -implicitDefEqProofs (maxSteps := 1000000) only [go_sem, seval, *]) (one_ord _ _ _ _) (by have := il.out; omega) (fun b e => by cases e; rw [Hp.own_drop, if_pos rfl]) fun u gA obA hA bA r1 => ?_
      have nA : gA ≠ g ∧ gA ≠ g5 ∧ gA ≠ g1 ∧ h0.own gA = none := by
        rcases hA with e | ⟨e, _⟩
        · cases e
          exact ⟨(own_ne hov g gl).1, (own_ne hov g5 hn5).1, bv.out.2, bv.out.1⟩
        · simp only [own_none_iff] at e
          have e2 := e.2.2.2.2
          exact ⟨e.1, e.2.2.1, (u1 gA e2).2, kept_none fa1.out e2⟩
      have y1 := neG nA.1
      have y2 := neG nA.2.1
      have y3 := neG nA.2.2.1
      obtain ⟨pu, cu, rfl⟩ := r1.len
      obtain rfl : pu = some ⟨gA, 0, none⟩ := by
        obtain ⟨g', c', e, _⟩ := r1.some (by omega)
        cases e
        cases bA
        rfl
      have r1' := Hold.mk r1
      clear r1 hA fa3
      simp -implicitDefEqProofs (maxSteps := 1000000) only [go_sem, seval, *]
      repeat' (first | (with_reducible refine at_seq (by with_unfolding_all exact rfl) ?_) | ((with_reducible first | refine at_plain (by with_unfolding_all exact rfl) ?_ | refine at_draw (by with_unfolding_all exact rfl) ?_ | refine at_cond (by with_unfolding_all exact rfl) ?_ | refine at_exit (by with_unfolding_all exact rfl) ?_ | refine at_ret (by with_unfolding_all exact rfl) ?_ | refine at_skip (by with_unfolding_all exact rfl) ?_ | refine at_label (by with_unfolding_all exact rfl) ?_) <;> try simp -implicitDefEqProofs (maxSteps := 1000000) only [go_sem, seval, *]) | (with_reducible first | refine at_block (by with_unfolding_all exact rfl) ?_ | refine at_loop (by with_unfolding_all exact rfl) ?_) | ((first | ((with_reducible refine NewK.intro fun g hg hn => ?_) <;> try simp only [own_none_iff] at hn) | ((with_reducible first | refine GuardB.split (fun hc => ?_) (fun hc => ?_) | refine CondK.split (fun hc => ?_) (fun hc => ?_) | refine PickK.split (fun hc => ?_) (fun hc => ?_) | refine GuardD.split (fun hc => ?_) (fun hc => ?_)) <;> (have hc2 := hc; try simp only [beq_eq_false_iff_ne, beq_iff_eq, ne_eq, bne_iff_ne, bne_eq_false_iff_eq, decide_eq_true_eq, decide_eq_false_iff_not, Bool.not_true, Bool.not_false, Int.not_le, Int.not_lt] at hc2)) | (with_reducible first | refine dop_buildSlice ?_ | refine dop_build ?_) | ((with_reducible refine DDraw.told (id := 9) [] [.tmp 3] mo ?_ ?_); kernel_rfl) | (with_reducible first | refine stp_build ?_ | refine stp_buildSlice ?_ | refine stp_store ?_ | refine stp_ns ?_) | (with_reducible refine NsB.intro (fun h' ho K' hk => by simp -implicitDefEqProofs (maxSteps := 1000000) only [go_sem, seval, *] <;> exact hk) ?_) | (with_reducible refine WrB.intro _ (by simp -implicitDefEqProofs (maxSteps := 1000000) only [go_sem, seval, *]) (fun h' ho K' hk => by simp -implicitDefEqProofs (maxSteps := 1000000) only [go_sem, seval, *]; exact hk) (fun h' ho K' hk => by simp -implicitDefEqProofs (maxSteps := 1000000) only [go_sem, seval, *] at hk; exact hk) (fun h' ho hk => by simp -implicitDefEqProofs (maxSteps := 1000000) only [go_sem, seval, *] at hk <;> with_unfolding_all exact False.elim hk) ?_) | (with_reducible refine WrB.intro _ (by simp -implicitDefEqProofs (maxSteps := 1000000) only [go_sem, seval, *]) (fun h' ho K' hk => by simp -implicitDefEqProofs (maxSteps := 1000000) only [go_sem, seval, *]; exact hk) ?_) | ((with_reducible refine DDraw.auto mo ?_ ?_); kernel_rfl)) <;> simp -implicitDefEqProofs (maxSteps := 1000000) only [go_sem, seval, *]) | (with_reducible refine bi_same ?_))
      have il := il.out
      have hj := fa0.out
      refine LoopK.intro (k' - 1) (by omega) ⟨i + 1, gA, cu, _, ⟨by omega⟩, ⟨subS (subS (subS fa1.out (kept_none fa1.out hn5)) (kept_none fa1.out gl)) nA.2.2.2⟩, (by simp -implicitDefEqProofs (maxSteps := 1000000) only [go_sem, seval, *]), ⟨by rw [ordL_succ, List.flatMap_append, wg]; exact Own.at_ (gA := gA) r1'.out bA (by simp -implicitDefEqProofs (maxSteps := 1000000) only [go_sem, seval, *])⟩, ⟨⟨nA.2.2.2, nA.2.2.1⟩⟩, fl_re (by kernel_rfl)⟩
  · have hin : ordN ol = i := by omega
    have e0 : ((i : Int) == 0) = false := by simp; omega
    by_cases hw : i < nO
    · have i1 : ((i : Int) < (nO : Int)) = True := by simp only [eq_iff_iff, iff_true]; omega
      have e3 : ((i : Int) < 5) = False := by simp only [eq_iff_iff, iff_false]; unfold ordN at hin; omega
      clear hj mb hln nb hlt hw
      repeat' (first | (with_reducible refine at_seq (by with_unfolding_all exact rfl) ?_) | ((with_reducible first | refine at_plain (by with_unfolding_all exact rfl) ?_ | refine at_draw (by with_unfolding_all exact rfl) ?_ | refine at_cond (by with_unfolding_all exact rfl) ?_ | refine at_exit (by with_unfolding_all exact rfl) ?_ | refine at_ret (by with_unfolding_all exact rfl) ?_ | refine at_skip (by with_unfolding_all exact rfl) ?_ | refine at_label (by with_unfolding_all exact rfl) ?_) <;> try simp -implicitDefEqProofs (maxSteps := 1000000) only [go_sem, seval, *]) | (with_reducible first | refine at_block (by with_unfolding_all exact rfl) ?_ | refine at_loop (by with_unfolding_all exact rfl) ?_) | ((first | ((with_reducible refine NewK.intro fun g hg hn => ?_) <;> try simp only [own_none_iff] at hn) | ((with_reducible first | refine GuardB.split (fun hc => ?_) (fun hc => ?_) | refine CondK.split (fun hc => ?_) (fun hc => ?_) | refine PickK.split (fun hc => ?_) (fun hc => ?_) | refine GuardD.split (fun hc => ?_) (fun hc => ?_)) <;> (have hc2 := hc; try simp only [beq_eq_false_iff_ne, beq_iff_eq, ne_eq, bne_iff_ne, bne_eq_false_iff_eq, decide_eq_true_eq, decide_eq_false_iff_not, Bool.not_true, Bool.not_false, Int.not_le, Int.not_lt] at hc2)) | (with_reducible first | refine dop_buildSlice ?_ | refine dop_build ?_) | ((with_reducible refine DDraw.told (id := 9) [] [.tmp 3] mo ?_ ?_); kernel_rfl) | (with_reducible first | refine stp_build ?_ | refine stp_buildSlice ?_ | refine stp_store ?_ | refine stp_ns ?_) | (with_reducible refine NsB.intro (fun h' ho K' hk => by simp -implicitDefEqProofs (maxSteps := 1000000) only [go_sem, seval, *] <;> exact hk) ?_) | (with_reducible refine WrB.intro _ (by simp -implicitDefEqProofs (maxSteps := 1000000) only [go_sem, seval, *]) (fun h' ho K' hk => by simp -implicitDefEqProofs (maxSteps := 1000000) only [go_sem, seval, *]; exact hk) (fun h' ho K' hk => by simp -implicitDefEqProofs (maxSteps := 1000000) only [go_sem, seval, *] at hk; exact hk) (fun h' ho hk => by simp -implicitDefEqProofs (maxSteps := 1000000) only [go_sem, seval, *] at hk <;> with_unfolding_all exact False.elim hk) ?_) | (with_reducible refine WrB.intro _ (by simp -implicitDefEqProofs (maxSteps := 1000000) only [go_sem, seval, *]) (fun h' ho K' hk => by simp -implicitDefEqProofs (maxSteps := 1000000) only [go_sem, seval, *]; exact hk) ?_) | ((with_reducible refine DDraw.auto mo ?_ ?_); kernel_rfl)) <;> simp -implicitDefEqProofs (maxSteps := 1000000) only [go_sem, seval, *]) | (with_reducible refine bi_same ?_))
      obtain rfl := hin
      exact hK.out gv cv _ fa1.out bv.out.1 fa3.out
    · have i1 : ((i : Int) < (nO : Int)) = False := by simp only [eq_iff_iff, iff_false]; omega
      clear hj mb hln nb hlt hw
      repeat' (first | (with_reducible refine at_seq (by with_unfolding_all exact rfl) ?_) | ((with_reducible first | refine at_plain (by with_unfolding_all exact rfl) ?_ | refine at_draw (by with_unfolding_all exact rfl) ?_ | refine at_cond (by with_unfolding_all exact rfl) ?_ | refine at_exit (by with_unfolding_all exact rfl) ?_ | refine at_ret (by with_unfolding_all exact rfl) ?_ | refine at_skip (by with_unfolding_all exact rfl) ?_ | refine at_label (by with_unfolding_all exact rfl) ?_) <;> try simp -implicitDefEqProofs (maxSteps := 1000000) only [go_sem, seval, *]) | (with_reducible first | refine at_block (by with_unfolding_all exact rfl) ?_ | refine at_loop (by with_unfolding_all exact rfl) ?_) | ((first | ((with_reducible refine NewK.intro fun g hg hn => ?_) <;> try simp only [own_none_iff] at hn) | ((with_reducible first | refine GuardB.split (fun hc => ?_) (fun hc => ?_) | refine CondK.split (fun hc => ?_) (fun hc => ?_) | refine PickK.split (fun hc => ?_) (fun hc => ?_) | refine GuardD.split (fun hc => ?_) (fun hc => ?_)) <;> (have hc2 := hc; try simp only [beq_eq_false_iff_ne, beq_iff_eq, ne_eq, bne_iff_ne, bne_eq_false_iff_eq, decide_eq_true_eq, decide_eq_false_iff_not, Bool.not_true, Bool.not_false, Int.not_le, Int.not_lt] at hc2)) | (with_reducible first | refine dop_buildSlice ?_ | refine dop_build ?_) | ((with_reducible refine DDraw.told (id := 9) [] [.tmp 3] mo ?_ ?_); kernel_rfl) | (with_reducible first | refine stp_build ?_ | refine stp_buildSlice ?_ | refine stp_store ?_ | refine stp_ns ?_) | (with_reducible refine NsB.intro (fun h' ho K' hk => by simp -implicitDefEqProofs (maxSteps := 1000000) only [go_sem, seval, *] <;> exact hk) ?_) | (with_reducible refine WrB.intro _ (by simp -implicitDefEqProofs (maxSteps := 1000000) only [go_sem, seval, *]) (fun h' ho K' hk => by simp -implicitDefEqProofs (maxSteps := 1000000) only [go_sem, seval, *]; exact hk) (fun h' ho K' hk => by simp -implicitDefEqProofs (maxSteps := 1000000) only [go_sem, seval, *] at hk; exact hk) (fun h' ho hk => by simp -implicitDefEqProofs (maxSteps := 1000000) only [go_sem, seval, *] at hk <;> with_unfolding_all exact False.elim hk) ?_) | (with_reducible refine WrB.intro _ (by simp -implicitDefEqProofs (maxSteps := 1000000) only [go_sem, seval, *]) (fun h' ho K' hk => by simp -implicitDefEqProofs (maxSteps := 1000000) only [go_sem, seval, *]; exact hk) ?_) | ((with_reducible refine DDraw.auto mo ?_ ?_); kernel_rfl)) <;> simp -implicitDefEqProofs (maxSteps := 1000000) only [go_sem, seval, *]) | (with_reducible refine bi_same ?_))
      obtain rfl := hin
      exact hK.out gv cv _ fa1.out bv.out.1 fa3.out

end Go.Proofs.Ytlbpfmnobapidaa
