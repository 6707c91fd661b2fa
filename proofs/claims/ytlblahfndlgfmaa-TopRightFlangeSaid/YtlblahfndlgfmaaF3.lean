/-
  Walks. Conditions: none.
-/
import Derived.Test.YtlblahfndlgfmaaF2
set_option linter.unusedVariables false
set_option linter.unusedSimpArgs false
namespace Go.Proofs.Ytlblahfndlgfmaa
open Go.RowKit Go.SL
set_option maxHeartbeats 1000000
set_option maxRecDepth 1000000
attribute [local go_sem] fl_getD fl_get fl_set lk_def st_def gL_nil gL_zero gL_succ sL_nil_zero sL_nil_succ sL_zero sL_succ Option.getD_none FgK_app onlyL_nil onlyL_none onlyL_some setO_some toB_bool toB_undef yl_def
attribute [local go_sem high] GuardK_yl GuardL_yl
attribute [local go_sem] initL_one initL_cons lastL_one lastL_cons LastK_app fin_round Fr.inr_w0 Fr.inr_ro Fr.inr_M cell_inr LoopO_some YieldK_some RoundQ_normal RoundQ_ret RoundQ_exit EndR_none EndR_some BegK_app BegR_some OutR_none OutR_ret OutR_exit LeftR_some LeftK_app
attribute [local go_sem] add_none goF_one goL_one flS_len List.length_set Nat.not_lt_zero recL_state recL_pending
theorem own_ne1 {o : Obj} {h : Hp} {x : Nat} (e : h.own x = some o) (b : Nat) (hb : h.own b = none) : x ≠ b ∧ b ≠ x := by
  have q : x ≠ b := by
    intro he
    subst he
    rw [e] at hb
    cases hb
  exact ⟨q, q.symm⟩
theorem own_ne {o : Obj} {h : Hp} {x : Nat} (e : h.own x = some o) : ∀ b, h.own b = none → x ≠ b ∧ b ≠ x := fun b hb => own_ne1 e b hb
theorem sub_cell {F : Fr} {h h' : Hp} (k : ∀ g o, h.own g = some o → h'.own g = some o) {a : Addr} {v : Value} (e : h.cell? F a = some v) : h'.cell? F a = some v := by
  unfold Hp.cell? at e ⊢
  cases hro : F.ro a with
  | some u => rw [hro] at e; exact e
  | none =>
    rw [hro] at e
    cases ho : h.own a.block with
    | none => rw [ho] at e; cases e
    | some o => rw [ho] at e; rw [k _ _ ho]; exact e
theorem sub_setP {P : Nat → Option Obj} {S : Hp} {g : Nat} {o : Obj} (e : P g = some o) (k : ∀ y u, S.own y = some u → P y = some u) : ∀ y u, (S.set g o).own y = some u → P y = some u := by
  intro y u h
  rw [Hp.own_set] at h
  split at h
  · rename_i q; subst q; cases h; exact e
  · exact k y u h
theorem NewK.intro_inr {F : Fr} {ob : Obj} {K : Nat → Hp → Prop} {h : Hp} (H : ∀ g, F.w0.heap.size ≤ g → h.own g = none → K g (h.set g ob)) : NewK F.inr ob K h := NewK.intro H
theorem sub_set {S H : Hp} {g : Nat} {o : Obj} (e : H.own g = some o) (k : ∀ y u, S.own y = some u → H.own y = some u) : ∀ y u, (S.set g o).own y = some u → H.own y = some u := by
  intro y u h
  rw [Hp.own_set] at h
  split at h
  · rename_i q; subst q; cases h; exact e
  · exact k y u h
def pullF (f : Nat → Int × Int) (sh : List Int) (n i : Nat) (g0 g1 : Int) : Nat → Int × Int := goF (max 0 (g0 - (f i).2)) (max 0 (g1 - (f i).1)) sh n i (updF f i (max (f i).1 g0, max (f i).2 g1)) n
def pullL (f l : Nat → Int × Int) (sh : List Int) (n i : Nat) (g0 g1 : Int) : Nat → Int × Int := goL (max 0 (g0 - (f i).2)) (max 0 (g1 - (f i).1)) sh n i (updF l i (0, 0)) n
set_option maxHeartbeats 8000000 in
theorem pull_D (F : Fr) (hT : F.top = true) (h S0 : Hp) (K : Value → Hp → Prop) (n i : Nat) (g0 g1 mm B : Int) (gf gs so sn sc gF cF gL cL : Nat) (k0 k1 k2 k3 k4 k5 k6 k7 k8 k9 k10 k11 k12 nd : Value) (sh : List Int) (f l : Nat → Int × Int)
    (hN : Hold (3 ≤ n ∧ n ≤ 12 ∧ sn = n / 2)) (hi : Hold (i < n)) (hG : Hold ((0 ≤ g0 ∧ g0 ≤ 100000000) ∧ 0 ≤ g1 ∧ g1 ≤ 100000000)) (hf : Hold (FBd f 100000000)) (hl : Hold (FBd l B)) (hB : Hold (0 ≤ B ∧ B ≤ 1000000000000000))
    (hs : Hold (∀ j, 0 ≤ shareV sh n j ∧ shareV sh n j ≤ 500)) (hS : Hold (∀ g o, S0.own g = some o → h.own g = some o)) (dF : S0.own gF = none) (dL : S0.own gL = none) (df : S0.own gf = none)
    (hq : gf ≠ gF ∧ gF ≠ gf ∧ gf ≠ gL ∧ gL ≠ gf ∧ gF ≠ gL ∧ gL ≠ gF) (hsh : Hold (readI (S0.cell? F) gs so sn = some sh)) (z1 : F.w0.heap.size ≤ gf) (z2 : F.w0.heap.size ≤ gF) (z3 : F.w0.heap.size ≤ gL)
    (o1 : h.own gf = some (.cells #[.int .i64 n, k0, k1, k2, k3, k4, k5, k6, k7, k8, k9, k10, k11, k12, .slice (some ⟨gs, so, none⟩) sn sc, nd, .slice (some ⟨gF, 0, none⟩) n cF, .slice (some ⟨gL, 0, none⟩) n cL, .int .i64 mm] 95)) (o2 : h.own gF = some (.cells (flS f n).toArray 26)) (o3 : h.own gL = some (.cells (flS l n).toArray 26))
    (hK : Hold (K (.tuple #[]) (((S0.set gF (.cells (flS (pullF f sh n i g0 g1) n).toArray 26)).set gL (.cells (flS (pullL f l sh n i g0 g1) n).toArray 26)).set gf (.cells #[.int .i64 n, k0, k1, k2, k3, k4, k5, k6, k7, k8, k9, k10, k11, k12, .slice (some ⟨gs, so, none⟩) sn sc, nd, .slice (some ⟨gF, 0, none⟩) n cF, .slice (some ⟨gL, 0, none⟩) n cL, .int .i64 (max mm (pullF f sh n i g0 g1 i).2)] 95)))) :
    DCall Try.prog F 61 #[.pointer (some ⟨gf, 0, none⟩), .int .i64 i, .agg #[.int .i64 g0, .int .i64 g1]] h K := by
  have w1 := own_ne o1
  have w2 := own_ne o2
  have w3 := own_ne o3
  have r0 := flS_get0 f hi.out
  have r1 := flS_get1 f hi.out
  have lt0 : i * 2 < n * 2 := by have := hi.out; omega
  have lt1 : i * 2 + 1 < n * 2 := by have := hi.out; omega
  have c0 : (0 : Int) ≤ (i : Int) := by omega
  have c1 : (i : Int) < (n : Int) := by have := hi.out; omega
  have fi := hf.out i
  have gb := hG.out
  have e1 : IntKind.i64.wrap (g0 - (f i).2) = g0 - (f i).2 := IntWalk.i64_in _ (by omega)
  have e2 : IntKind.i64.wrap (g1 - (f i).1) = g1 - (f i).1 := IntWalk.i64_in _ (by omega)
  have x1 := flS_set f (max (f i).1 g0, max (f i).2 g1) hi.out
  have x2 := flS_set l (0, 0) hi.out
  dsimp only at x1 x2
  clear fi gb
  refine DCall.weak ?_
  (refine DCall.inlP (l := _) Try.func61 Try.ntmps61 rfl rfl (by simp only [seval, List.length_cons, List.length_nil]) (by simp only [seval, List.length_cons, List.length_nil]) ?_; simp only [Try.results61, List.map_cons, List.map_nil])
  repeat' (first | (with_reducible refine at_seq (by with_unfolding_all exact rfl) ?_) | ((first | (with_reducible refine at_plain (by with_unfolding_all exact rfl) ?_) | (with_reducible refine at_draw (by with_unfolding_all exact rfl) ?_) | (with_reducible refine at_cond (by with_unfolding_all exact rfl) ?_) | (with_reducible refine at_exit (by with_unfolding_all exact rfl) ?_) | (with_reducible refine at_ret (by with_unfolding_all exact rfl) ?_) | (with_reducible refine at_skip (by with_unfolding_all exact rfl) ?_) | (with_reducible refine at_label (by with_unfolding_all exact rfl) ?_)) <;> try simp -implicitDefEqProofs (maxSteps := 1000000) only [go_sem, seval, *]) | (with_reducible refine at_block (by with_unfolding_all exact rfl) ?_) | (with_reducible refine at_loop (by with_unfolding_all exact rfl) ?_) | ((first | ((with_reducible refine DDraw.lasts (id := 3) [] [] mo ?_ ?_); kernel_rfl) | ((with_reducible refine NewK.intro fun g hg hn => ?_) <;> try simp only [own_none_iff] at hn) | ((with_reducible refine GuardB.split (fun hc => ?_) (fun hc => ?_)) <;> (have hc2 := hc; try simp only [beq_eq_false_iff_ne, beq_iff_eq, ne_eq, bne_iff_ne, bne_eq_false_iff_eq, decide_eq_true_eq, decide_eq_false_iff_not, Bool.not_true, Bool.not_false, Int.not_le, Int.not_lt] at hc2)) | ((with_reducible refine CondK.split (fun hc => ?_) (fun hc => ?_)) <;> (have hc2 := hc; try simp only [beq_eq_false_iff_ne, beq_iff_eq, ne_eq, bne_iff_ne, bne_eq_false_iff_eq, decide_eq_true_eq, decide_eq_false_iff_not, Bool.not_true, Bool.not_false, Int.not_le, Int.not_lt] at hc2)) | ((with_reducible refine PickK.split (fun hc => ?_) (fun hc => ?_)) <;> (have hc2 := hc; try simp only [beq_eq_false_iff_ne, beq_iff_eq, ne_eq, bne_iff_ne, bne_eq_false_iff_eq, decide_eq_true_eq, decide_eq_false_iff_not, Bool.not_true, Bool.not_false, Int.not_le, Int.not_lt] at hc2)) | (with_reducible refine dop_buildSlice ?_) | (with_reducible refine dop_build ?_) | ((with_reducible refine DDraw.told (id := 10) [] [] mo ?_ ?_); kernel_rfl) | ((with_reducible refine DDraw.told (id := 11) [] [] mo ?_ ?_); kernel_rfl) | ((with_reducible refine DDraw.told (id := 2) [] [] mo ?_ ?_); kernel_rfl) | ((with_reducible refine DDraw.told (id := 3) [] [] mo ?_ ?_); kernel_rfl) | ((with_reducible refine DDraw.told (id := 9) [] [] mo ?_ ?_); kernel_rfl) | ((with_reducible refine GuardD.split (fun hc => ?_) (fun hc => ?_)) <;> (have hc2 := hc; try simp only [beq_eq_false_iff_ne, beq_iff_eq, ne_eq, bne_iff_ne, bne_eq_false_iff_eq, decide_eq_true_eq, decide_eq_false_iff_not, Bool.not_true, Bool.not_false, Int.not_le, Int.not_lt] at hc2)) | (with_reducible refine stp_build ?_) | (with_reducible refine stp_buildSlice ?_) | (with_reducible refine stp_store ?_) | (with_reducible refine stp_ns ?_) | (with_reducible refine NsB.intro (fun h' ho K' hk => by simp -implicitDefEqProofs (maxSteps := 1000000) only [go_sem, seval, *] <;> exact hk) ?_) | (with_reducible refine WrB.intro _ (by simp -implicitDefEqProofs (maxSteps := 1000000) only [go_sem, seval, *]) (fun h' ho K' hk => by simp -implicitDefEqProofs (maxSteps := 1000000) only [go_sem, seval, *]; exact hk) (fun h' ho K' hk => by simp -implicitDefEqProofs (maxSteps := 1000000) only [go_sem, seval, *] at hk; exact hk) (fun h' ho hk => by simp -implicitDefEqProofs (maxSteps := 1000000) only [go_sem, seval, *] at hk <;> with_unfolding_all exact False.elim hk) ?_) | (with_reducible refine WrB.intro _ (by simp -implicitDefEqProofs (maxSteps := 1000000) only [go_sem, seval, *]) (fun h' ho K' hk => by simp -implicitDefEqProofs (maxSteps := 1000000) only [go_sem, seval, *]; exact hk) ?_) | ((with_reducible refine DDraw.auto mo ?_ ?_); kernel_rfl)) <;> simp -implicitDefEqProofs (maxSteps := 1000000) only [go_sem, seval, *]) | (with_reducible refine bi_same ?_))
  (refine DCall.inlP (l := _) Try.func74 Try.ntmps74 rfl rfl (by simp only [seval, List.length_cons, List.length_nil]) (by simp only [seval, List.length_cons, List.length_nil]) ?_; simp only [Try.results74, List.map_cons, List.map_nil])
  repeat' (first | (with_reducible refine at_seq (by with_unfolding_all exact rfl) ?_) | ((first | (with_reducible refine at_plain (by with_unfolding_all exact rfl) ?_) | (with_reducible refine at_draw (by with_unfolding_all exact rfl) ?_) | (with_reducible refine at_cond (by with_unfolding_all exact rfl) ?_) | (with_reducible refine at_exit (by with_unfolding_all exact rfl) ?_) | (with_reducible refine at_ret (by with_unfolding_all exact rfl) ?_) | (with_reducible refine at_skip (by with_unfolding_all exact rfl) ?_) | (with_reducible refine at_label (by with_unfolding_all exact rfl) ?_)) <;> try simp -implicitDefEqProofs (maxSteps := 1000000) only [go_sem, seval, *]) | (with_reducible refine at_block (by with_unfolding_all exact rfl) ?_) | (with_reducible refine at_loop (by with_unfolding_all exact rfl) ?_) | ((first | ((with_reducible refine NewK.intro fun g hg hn => ?_) <;> try simp only [own_none_iff] at hn) | ((with_reducible refine GuardB.split (fun hc => ?_) (fun hc => ?_)) <;> (have hc2 := hc; try simp only [beq_eq_false_iff_ne, beq_iff_eq, ne_eq, bne_iff_ne, bne_eq_false_iff_eq, decide_eq_true_eq, decide_eq_false_iff_not, Bool.not_true, Bool.not_false, Int.not_le, Int.not_lt] at hc2)) | ((with_reducible refine CondK.split (fun hc => ?_) (fun hc => ?_)) <;> (have hc2 := hc; try simp only [beq_eq_false_iff_ne, beq_iff_eq, ne_eq, bne_iff_ne, bne_eq_false_iff_eq, decide_eq_true_eq, decide_eq_false_iff_not, Bool.not_true, Bool.not_false, Int.not_le, Int.not_lt] at hc2)) | ((with_reducible refine PickK.split (fun hc => ?_) (fun hc => ?_)) <;> (have hc2 := hc; try simp only [beq_eq_false_iff_ne, beq_iff_eq, ne_eq, bne_iff_ne, bne_eq_false_iff_eq, decide_eq_true_eq, decide_eq_false_iff_not, Bool.not_true, Bool.not_false, Int.not_le, Int.not_lt] at hc2)) | (with_reducible refine dop_buildSlice ?_) | (with_reducible refine dop_build ?_) | ((with_reducible refine GuardD.split (fun hc => ?_) (fun hc => ?_)) <;> (have hc2 := hc; try simp only [beq_eq_false_iff_ne, beq_iff_eq, ne_eq, bne_iff_ne, bne_eq_false_iff_eq, decide_eq_true_eq, decide_eq_false_iff_not, Bool.not_true, Bool.not_false, Int.not_le, Int.not_lt] at hc2)) | (with_reducible refine stp_build ?_) | (with_reducible refine stp_buildSlice ?_) | (with_reducible refine stp_store ?_) | (with_reducible refine stp_ns ?_) | (with_reducible refine NsB.intro (fun h' ho K' hk => by simp -implicitDefEqProofs (maxSteps := 1000000) only [go_sem, seval, *] <;> exact hk) ?_) | (with_reducible refine WrB.intro _ (by simp -implicitDefEqProofs (maxSteps := 1000000) only [go_sem, seval, *]) (fun h' ho K' hk => by simp -implicitDefEqProofs (maxSteps := 1000000) only [go_sem, seval, *]; exact hk) (fun h' ho K' hk => by simp -implicitDefEqProofs (maxSteps := 1000000) only [go_sem, seval, *] at hk; exact hk) (fun h' ho hk => by simp -implicitDefEqProofs (maxSteps := 1000000) only [go_sem, seval, *] at hk <;> with_unfolding_all exact False.elim hk) ?_) | (with_reducible refine WrB.intro _ (by simp -implicitDefEqProofs (maxSteps := 1000000) only [go_sem, seval, *]) (fun h' ho K' hk => by simp -implicitDefEqProofs (maxSteps := 1000000) only [go_sem, seval, *]; exact hk) ?_) | ((with_reducible refine DDraw.auto mo ?_ ?_); kernel_rfl)) <;> simp -implicitDefEqProofs (maxSteps := 1000000) only [go_sem, seval, *]) | (with_reducible refine bi_same ?_))
  rename_i g3 hg3 hn3 g5 hg5 hn5 g6 hg6 hn6 g7 hg7 hn7 g8 hg8 hn8 b1 hb1 hnb1
  generalize hgg : g = b2 at *
  clear hgg
  refine at_rangeFunc (by with_unfolding_all exact rfl) ?_
  refine DWp.rangeFunc (gf := 79) (lb := #[.pointer (some ⟨b1, 0, none⟩), .pointer (some ⟨b2, 0, none⟩)]) hT (by simp -implicitDefEqProofs (maxSteps := 1000000) only [go_sem, seval, *]) (by unfold entB; rw [Try.func79]; rfl) (fun D hD1 hD2 L hL1 hL2 fn => ?_)
  simp only [own_none_iff] at hD2 hL2
  generalize hrec : recL fn _ _ _ _ D = rec
  have es : rec.state = .ready := by rw [← hrec]; rfl
  have en : rec.pending = none := by rw [← hrec]; rfl
  have ea : rec.assign = _ := congrArg Loop.assign hrec.symm
  have eb : rec.body = _ := congrArg Loop.body hrec.symm
  have et : rec.tmps = _ := congrArg Loop.tmps hrec.symm
  have ep : rec.params = _ := congrArg Loop.params hrec.symm
  simp only [recL] at ea eb et ep
  replace ea := Hold.mk ea
  replace eb := Hold.mk eb
  replace et := Hold.mk et
  replace ep := Hold.mk ep
  have er : ({ state := .ready, pending := none, fn := rec.fn, tmps := rec.tmps, params := rec.params, assign := rec.assign, body := rec.body, defers := rec.defers } : Loop) = rec := by rw [← hrec]; rfl
  have S0ne := fun g o (e : S0.own g = some o) => own_ne (hS.out g o e)
  have nS : ∀ b, h.own b = none → S0.own b = none := fun b hb => by
    cases e : S0.own b with
    | none => rfl
    | some o => exact absurd rfl (S0ne b o e b hb).1
  have q3 := nS g3 hn3
  have q7 := nS g7 hn7.2.2.2.2.2.2
  have q8 := nS g8 hn8.2.2.2.2.2.2.2.2
  have qD := nS D (by simp only [hD2])
  have qL := nS L (by simp only [hL2])
  have qb1 := nS b1 (by simp only [hnb1])
  have qb2 := nS b2 (by simp only [hn])
  have dw1L := w1 L (by simp only [hL2])
  have dw1D := w1 D (by simp only [hD2])
  have dw1g3 := w1 g3 (hn3)
  have dw1g7 := w1 g7 (hn7.2.2.2.2.2.2)
  have dw1g8 := w1 g8 (hn8.2.2.2.2.2.2.2.2)
  have dw2L := w2 L (by simp only [hL2])
  have dw2D := w2 D (by simp only [hD2])
  have dw2g3 := w2 g3 (hn3)
  have dw2g7 := w2 g7 (hn7.2.2.2.2.2.2)
  have dw2g8 := w2 g8 (hn8.2.2.2.2.2.2.2.2)
  have dw3L := w3 L (by simp only [hL2])
  have dw3D := w3 D (by simp only [hD2])
  have dw3g3 := w3 g3 (hn3)
  have dw3g7 := w3 g7 (hn7.2.2.2.2.2.2)
  have dw3g8 := w3 g8 (hn8.2.2.2.2.2.2.2.2)
  obtain ⟨S, hSd⟩ : ∃ S, S = ((S0.set b1 (.cells #[.pointer (some ⟨gf, 0, none⟩)] 66)).set b2 (.cells #[.int .i64 i] 3)).set gf (.cells #[.int .i64 n, k0, k1, k2, k3, k4, k5, k6, k7, k8, k9, k10, k11, k12, .slice (some ⟨gs, so, none⟩) sn sc, nd, .slice (some ⟨gF, 0, none⟩) n cF, .slice (some ⟨gL, 0, none⟩) n cL, .int .i64 mm] 95) := ⟨_, rfl⟩
  have sL : S.own L = none := by rw [hSd]; simp -implicitDefEqProofs (maxSteps := 1000000) only [go_sem, seval, *]
  have sFF : S.own gF = none := by rw [hSd]; simp -implicitDefEqProofs (maxSteps := 1000000) only [go_sem, seval, *]
  have sLL : S.own gL = none := by rw [hSd]; simp -implicitDefEqProofs (maxSteps := 1000000) only [go_sem, seval, *]
  obtain ⟨I, hId⟩ : ∃ I : Nat → Hp → Prop, I = fun j h' => (∀ g o, S.own g = some o → h'.own g = some o) ∧ h'.own L = some (.loop rec) ∧ h'.own D = some (.deferred (some [])) ∧ h'.own g3 = some (.cells #[.pointer (some ⟨gf, 0, none⟩)] 66) ∧ h'.own g7 = some (.cells #[.int .i64 (max 0 (g0 - (f i).2))] 3) ∧ h'.own g8 = some (.cells #[.int .i64 (max 0 (g1 - (f i).1))] 3) ∧ h'.own gF = some (.cells (flS (goF (max 0 (g0 - (f i).2)) (max 0 (g1 - (f i).1)) sh n i (updF f i (max (f i).1 g0, max (f i).2 g1)) j) n).toArray 26) ∧ h'.own gL = some (.cells (flS (goL (max 0 (g0 - (f i).2)) (max 0 (g1 - (f i).1)) sh n i (updF l i (0, 0)) j) n).toArray 26) := ⟨_, rfl⟩
  show DCall Try.prog F 79 #[.func (.yield L) #[] #[], .pointer (some ⟨b1, 0, none⟩), .pointer (some ⟨b2, 0, none⟩)] _ _
  refine others_D F _ _ n i b1 b2 gf gs so sn sc L k0 k1 k2 k3 k4 k5 k6 k7 k8 k9 k10 k11 k12 nd (.slice (some ⟨gF, 0, none⟩) n cF) (.slice (some ⟨gL, 0, none⟩) n cL) (.int .i64 mm) sh S I hN hi (by rw [hSd]; simp -implicitDefEqProofs (maxSteps := 1000000) only [go_sem, seval, *]) (by rw [hSd]; simp -implicitDefEqProofs (maxSteps := 1000000) only [go_sem, seval, *]) (by rw [hSd]; simp -implicitDefEqProofs (maxSteps := 1000000) only [go_sem, seval, *]) ⟨?_⟩ hb1 hg z1 ⟨?_⟩ ⟨?_⟩ ?_ ⟨?_⟩
  · refine readI_mono (fun a u e => sub_cell (fun y o e => ?_) e) hsh.out
    rw [hSd]
    have a1 : y ≠ gf := by rintro rfl; rw [df] at e; cases e
    have a2 : y ≠ b2 := by rintro rfl; rw [qb2] at e; cases e
    have a3 : y ≠ b1 := by rintro rfl; rw [qb1] at e; cases e
    rw [Hp.own_set, if_neg a1, Hp.own_set, if_neg a2, Hp.own_set, if_neg a3]
    exact e
  · intro j h' hij
    rw [hId] at hij
    exact ⟨hij.1, rec, hij.2.1, by rw [ep.out]; rfl⟩
  · intro j h' K' p1 p2 hij hk r hr
    rw [hId] at hij
    obtain ⟨m0, m1, m2, m3, m4, m5, m6, m7⟩ := hij
    obtain rfl : rec = r := by rw [m1] at hr; cases hr; rfl
    have kn : (i + j) % n < n := Nat.mod_lt _ (by omega)
    have hi0 := hf.out i
    have hG0 := hG.out
    have hle : 0 ≤ (max 0 (g0 - (f i).2)) ∧ (max 0 (g0 - (f i).2)) ≤ 100000000 := by omega
    have hmo : 0 ≤ (max 0 (g1 - (f i).1)) ∧ (max 0 (g1 - (f i).1)) ≤ 100000000 := by omega
    have fj := goF_bd (sh := sh) (n := n) (i := i) (f := (updF f i (max (f i).1 g0, max (f i).2 g1))) hle hmo hs.out (updF_bd hf.out (by dsimp only; omega)) j ((i + j) % n)
    have lj := goL_bd (sh := sh) (n := n) (i := i) (l := (updF l i (0, 0))) (B := B) hle hmo hs.out (updF_bd hl.out (by have := hB.out; dsimp only; omega)) j ((i + j) % n)
    have lb := loss_bd hle hmo (hs.out j)
    have jn := hN.out
    have Bb := hB.out
    have stepF := goF_step (le := (max 0 (g0 - (f i).2))) (mo := (max 0 (g1 - (f i).1))) (sh := sh) (n := n) (i := i) (f := (updF f i (max (f i).1 g0, max (f i).2 g1))) (j := j) (by omega)
    have stepL := goL_step (le := (max 0 (g0 - (f i).2))) (mo := (max 0 (g1 - (f i).1))) (sh := sh) (n := n) (i := i) (l := (updF l i (0, 0))) (j := j) (by omega)
    rw [hId] at hk
    dsimp only at hk
    rw [stepF, stepL] at hk
    replace hk := Hold.mk hk
    clear stepF stepL
    have uO : h'.own gf = some (.cells #[.int .i64 n, k0, k1, k2, k3, k4, k5, k6, k7, k8, k9, k10, k11, k12, .slice (some ⟨gs, so, none⟩) sn sc, nd, .slice (some ⟨gF, 0, none⟩) n cF, .slice (some ⟨gL, 0, none⟩) n cL, .int .i64 mm] 95) := m0 gf _ (by rw [hSd]; simp -implicitDefEqProofs (maxSteps := 1000000) only [go_sem, seval, *])
    clear o1 o2 o3 w1 w2 w3 hId r0 r1 lt0 lt1 c0 c1 e1 e2 x1 x2 hi0 hG0 hr
    generalize goF (max 0 (g0 - (f i).2)) (max 0 (g1 - (f i).1)) sh n i (updF f i (max (f i).1 g0, max (f i).2 g1)) j = FJ at *
    generalize goL (max 0 (g0 - (f i).2)) (max 0 (g1 - (f i).1)) sh n i (updF l i (0, 0)) j = LJ at *
    generalize shareV sh n j = s at *
    generalize (i + j) % n = k at *
    generalize (max 0 (g0 - (f i).2)) = le at *
    generalize (max 0 (g1 - (f i).1)) = mv at *
    have w1 : IntKind.i64.wrap (le * s) = le * s := IntWalk.i64_in _ (by omega)
    have w2 : IntKind.i64.wrap ((le * s).tdiv 1000) = le * s / 1000 := by rw [Int.tdiv_eq_ediv_of_nonneg (by omega)]; exact IntWalk.i64_in _ (by omega)
    have w3 : IntKind.i64.wrap (mv * s) = mv * s := IntWalk.i64_in _ (by omega)
    have w4 : IntKind.i64.wrap (mv * s + 1000) = mv * s + 1000 := IntWalk.i64_in _ (by omega)
    have w5 : IntKind.i64.wrap (mv * s + 1000 - 1) = mv * s + 999 := by rw [IntWalk.i64_in _ (by omega)]; omega
    have w6 : IntKind.i64.wrap ((mv * s + 999).tdiv 1000) = (mv * s + 999) / 1000 := by rw [Int.tdiv_eq_ediv_of_nonneg (by omega)]; exact IntWalk.i64_in _ (by omega)
    have w7 : IntKind.i64.wrap ((LJ k).1 + le * s / 1000) = (LJ k).1 + le * s / 1000 := IntWalk.i64_in _ (by omega)
    have w8 : IntKind.i64.wrap ((LJ k).2 + (mv * s + 999) / 1000) = (LJ k).2 + (mv * s + 999) / 1000 := IntWalk.i64_in _ (by omega)
    have w9 : IntKind.i64.wrap ((FJ k).1 - (mv * s + 999) / 1000) = (FJ k).1 - (mv * s + 999) / 1000 := IntWalk.i64_in _ (by omega)
    have w10 : IntKind.i64.wrap ((FJ k).2 - le * s / 1000) = (FJ k).2 - le * s / 1000 := IntWalk.i64_in _ (by omega)
    have lt0 : k * 2 < n * 2 := by omega
    have lt1 : k * 2 + 1 < n * 2 := by omega
    have c0 : (0 : Int) ≤ (k : Int) := by omega
    have c1 : (k : Int) < (n : Int) := by omega
    have rF0 := flS_get0 FJ kn
    have rF1 := flS_get1 FJ kn
    have rL0 := flS_get0 LJ kn
    have rL1 := flS_get1 LJ kn
    have xF := flS_set FJ (max 0 ((FJ k).1 - (mv * s + 999) / 1000), max 0 ((FJ k).2 - le * s / 1000)) kn
    have xL := flS_set LJ ((LJ k).1 + le * s / 1000, (LJ k).2 + (mv * s + 999) / 1000) kn
    dsimp only at xF xL
    have v1 := own_ne m1
    have v2 := own_ne m2
    have v3 := own_ne m3
    have v4 := own_ne m4
    have v5 := own_ne m5
    have v6 := own_ne m6
    have v7 := own_ne m7
    have v8 := own_ne uO
    clear fj lj lb jn Bb hle hmo kn
    replace p1 := Hold.mk p1
    replace p2 := Hold.mk p2
    refine DRound.intro ?_
    simp only [ea.out, eb.out, et.out, ep.out, fold2]
    clear hrec
    simp -implicitDefEqProofs (maxSteps := 1000000) only [go_sem, seval, *]
    repeat' (first | (with_reducible refine at_seq (by with_unfolding_all exact rfl) ?_) | ((first | (with_reducible refine at_plain (by with_unfolding_all exact rfl) ?_) | (with_reducible refine at_draw (by with_unfolding_all exact rfl) ?_) | (with_reducible refine at_cond (by with_unfolding_all exact rfl) ?_) | (with_reducible refine at_exit (by with_unfolding_all exact rfl) ?_) | (with_reducible refine at_ret (by with_unfolding_all exact rfl) ?_) | (with_reducible refine at_skip (by with_unfolding_all exact rfl) ?_) | (with_reducible refine at_label (by with_unfolding_all exact rfl) ?_)) <;> try simp -implicitDefEqProofs (maxSteps := 1000000) only [go_sem, seval, *]) | (with_reducible refine at_block (by with_unfolding_all exact rfl) ?_) | (with_reducible refine at_loop (by with_unfolding_all exact rfl) ?_) | ((first | ((with_reducible refine NewK.intro_inr fun g hg hn => ?_); try simp only [own_none_iff] at hn) | ((with_reducible refine DDraw.lasts (id := 9) [] [] mo ?_ ?_); kernel_rfl) | ((with_reducible refine DDraw.lasts (id := 10) [] [] mo ?_ ?_); kernel_rfl) | ((with_reducible refine NewK.intro fun g hg hn => ?_) <;> try simp only [own_none_iff] at hn) | ((with_reducible refine GuardB.split (fun hc => ?_) (fun hc => ?_)) <;> (have hc2 := hc; try simp only [beq_eq_false_iff_ne, beq_iff_eq, ne_eq, bne_iff_ne, bne_eq_false_iff_eq, decide_eq_true_eq, decide_eq_false_iff_not, Bool.not_true, Bool.not_false, Int.not_le, Int.not_lt] at hc2)) | ((with_reducible refine CondK.split (fun hc => ?_) (fun hc => ?_)) <;> (have hc2 := hc; try simp only [beq_eq_false_iff_ne, beq_iff_eq, ne_eq, bne_iff_ne, bne_eq_false_iff_eq, decide_eq_true_eq, decide_eq_false_iff_not, Bool.not_true, Bool.not_false, Int.not_le, Int.not_lt] at hc2)) | ((with_reducible refine PickK.split (fun hc => ?_) (fun hc => ?_)) <;> (have hc2 := hc; try simp only [beq_eq_false_iff_ne, beq_iff_eq, ne_eq, bne_iff_ne, bne_eq_false_iff_eq, decide_eq_true_eq, decide_eq_false_iff_not, Bool.not_true, Bool.not_false, Int.not_le, Int.not_lt] at hc2)) | (with_reducible refine dop_buildSlice ?_) | (with_reducible refine dop_build ?_) | ((with_reducible refine GuardD.split (fun hc => ?_) (fun hc => ?_)) <;> (have hc2 := hc; try simp only [beq_eq_false_iff_ne, beq_iff_eq, ne_eq, bne_iff_ne, bne_eq_false_iff_eq, decide_eq_true_eq, decide_eq_false_iff_not, Bool.not_true, Bool.not_false, Int.not_le, Int.not_lt] at hc2)) | (with_reducible refine stp_build ?_) | (with_reducible refine stp_buildSlice ?_) | (with_reducible refine stp_store ?_) | (with_reducible refine stp_ns ?_) | (with_reducible refine NsB.intro (fun h' ho K' hk => by simp -implicitDefEqProofs (maxSteps := 1000000) only [go_sem, seval, *] <;> exact hk) ?_) | (with_reducible refine WrB.intro _ (by simp -implicitDefEqProofs (maxSteps := 1000000) only [go_sem, seval, *]) (fun h' ho K' hk => by simp -implicitDefEqProofs (maxSteps := 1000000) only [go_sem, seval, *]; exact hk) (fun h' ho K' hk => by simp -implicitDefEqProofs (maxSteps := 1000000) only [go_sem, seval, *] at hk; exact hk) (fun h' ho hk => by simp -implicitDefEqProofs (maxSteps := 1000000) only [go_sem, seval, *] at hk <;> with_unfolding_all exact False.elim hk) ?_) | (with_reducible refine WrB.intro _ (by simp -implicitDefEqProofs (maxSteps := 1000000) only [go_sem, seval, *]) (fun h' ho K' hk => by simp -implicitDefEqProofs (maxSteps := 1000000) only [go_sem, seval, *]; exact hk) ?_) | ((with_reducible refine DDraw.auto mo ?_ ?_); kernel_rfl)) <;> simp -implicitDefEqProofs (maxSteps := 1000000) only [go_sem, seval, *]) | (with_reducible refine bi_same ?_))
    have p1 := p1.out
    refine hk.out _ ?_
    refine ⟨fun y o e => ?_, ?_, ?_, ?_, ?_, ?_, ?_, ?_⟩
    · have a1 : y ≠ L := by rintro rfl; rw [sL] at e; cases e
      have a2 : y ≠ gF := by rintro rfl; rw [sFF] at e; cases e
      have a3 : y ≠ gL := by rintro rfl; rw [sLL] at e; cases e
      have a4 := own_ne (m0 y o e)
      have a5 := m0 y o e
      simp -implicitDefEqProofs (maxSteps := 1000000) only [go_sem, seval, *]
    · simp -implicitDefEqProofs (maxSteps := 1000000) only [go_sem, seval, *]
    · simp -implicitDefEqProofs (maxSteps := 1000000) only [go_sem, seval, *]
    · simp -implicitDefEqProofs (maxSteps := 1000000) only [go_sem, seval, *]
    · simp -implicitDefEqProofs (maxSteps := 1000000) only [go_sem, seval, *]
    · simp -implicitDefEqProofs (maxSteps := 1000000) only [go_sem, seval, *]
    · simp -implicitDefEqProofs (maxSteps := 1000000) only [go_sem, seval, *]
    · simp -implicitDefEqProofs (maxSteps := 1000000) only [go_sem, seval, *]
  · rw [hId]
    refine ⟨?_, by simp -implicitDefEqProofs (maxSteps := 1000000) only [go_sem, seval, *], by simp -implicitDefEqProofs (maxSteps := 1000000) only [go_sem, seval, *], by simp -implicitDefEqProofs (maxSteps := 1000000) only [go_sem, seval, *], by simp -implicitDefEqProofs (maxSteps := 1000000) only [go_sem, seval, *], by simp -implicitDefEqProofs (maxSteps := 1000000) only [go_sem, seval, *], by simp -implicitDefEqProofs (maxSteps := 1000000) only [go_sem, seval, *], by simp -implicitDefEqProofs (maxSteps := 1000000) only [go_sem, seval, *]⟩
    rw [hSd]
    refine sub_set (by simp -implicitDefEqProofs (maxSteps := 1000000) only [go_sem, seval, *]) (sub_set (by simp -implicitDefEqProofs (maxSteps := 1000000) only [go_sem, seval, *]) (sub_set (by simp -implicitDefEqProofs (maxSteps := 1000000) only [go_sem, seval, *]) fun y u e => ?_))
    have a0 := S0ne y u e
    have a1 := hS.out y u e
    have a2 : y ≠ gF := by rintro rfl; rw [dF] at e; cases e
    have a3 : y ≠ gL := by rintro rfl; rw [dL] at e; cases e
    have a4 : y ≠ gf := by rintro rfl; rw [df] at e; cases e
    simp -implicitDefEqProofs (maxSteps := 1000000) only [go_sem, seval, *]
  · intro h' hij
    rw [hId] at hij
    obtain ⟨m0, m1, m2, m3, m4, m5, m6, m7⟩ := hij
    have v1 := own_ne m1
    have v2 := own_ne m2
    have v3 := own_ne m3
    have v4 := own_ne m4
    have v5 := own_ne m5
    have v6 := own_ne m6
    have v7 := own_ne m7
    have uO : h'.own gf = some (.cells #[.int .i64 n, k0, k1, k2, k3, k4, k5, k6, k7, k8, k9, k10, k11, k12, .slice (some ⟨gs, so, none⟩) sn sc, nd, .slice (some ⟨gF, 0, none⟩) n cF, .slice (some ⟨gL, 0, none⟩) n cL, .int .i64 mm] 95) := m0 gf _ (by rw [hSd]; simp -implicitDefEqProofs (maxSteps := 1000000) only [go_sem, seval, *])
    have v8 := own_ne uO
    clear o1 o2 o3 w1 w2 w3 hId r0 r1 lt0 lt1 x1 x2
    simp only [LeftK_app, m1, LeftR_some, en, OutR_none, es]
    refine ⟨(by intro hx; cases hx), ?_⟩
    have nN := hN.out
    have c0 : (0 : Int) ≤ (i : Int) := by omega
    have c1 : (i : Int) < (n : Int) := by have := hi.out; omega
    have lt1 : i * 2 + 1 < n * 2 := by have := hi.out; omega
    have hKo := hK.out
    unfold pullF pullL at hKo
    replace hKo := Hold.mk hKo
    clear nN hK
    generalize goF (max 0 (g0 - (f i).2)) (max 0 (g1 - (f i).1)) sh n i (updF f i (max (f i).1 g0, max (f i).2 g1)) n = FJ at *
    generalize goL (max 0 (g0 - (f i).2)) (max 0 (g1 - (f i).1)) sh n i (updF l i (0, 0)) n = LJ at *
    have rF1 := flS_get1 FJ hi.out
    clear hrec
    simp -implicitDefEqProofs (maxSteps := 1000000) only [go_sem, seval, *]
    repeat' (first | (with_reducible refine at_seq (by with_unfolding_all exact rfl) ?_) | ((first | (with_reducible refine at_plain (by with_unfolding_all exact rfl) ?_) | (with_reducible refine at_draw (by with_unfolding_all exact rfl) ?_) | (with_reducible refine at_cond (by with_unfolding_all exact rfl) ?_) | (with_reducible refine at_exit (by with_unfolding_all exact rfl) ?_) | (with_reducible refine at_ret (by with_unfolding_all exact rfl) ?_) | (with_reducible refine at_skip (by with_unfolding_all exact rfl) ?_) | (with_reducible refine at_label (by with_unfolding_all exact rfl) ?_)) <;> try simp -implicitDefEqProofs (maxSteps := 1000000) only [go_sem, seval, *]) | (with_reducible refine at_block (by with_unfolding_all exact rfl) ?_) | (with_reducible refine at_loop (by with_unfolding_all exact rfl) ?_) | ((first | ((with_reducible refine DDraw.lasts (id := 11) [] [] mo ?_ ?_); kernel_rfl) | ((with_reducible refine NewK.intro fun g hg hn => ?_) <;> try simp only [own_none_iff] at hn) | ((with_reducible refine GuardB.split (fun hc => ?_) (fun hc => ?_)) <;> (have hc2 := hc; try simp only [beq_eq_false_iff_ne, beq_iff_eq, ne_eq, bne_iff_ne, bne_eq_false_iff_eq, decide_eq_true_eq, decide_eq_false_iff_not, Bool.not_true, Bool.not_false, Int.not_le, Int.not_lt] at hc2)) | ((with_reducible refine CondK.split (fun hc => ?_) (fun hc => ?_)) <;> (have hc2 := hc; try simp only [beq_eq_false_iff_ne, beq_iff_eq, ne_eq, bne_iff_ne, bne_eq_false_iff_eq, decide_eq_true_eq, decide_eq_false_iff_not, Bool.not_true, Bool.not_false, Int.not_le, Int.not_lt] at hc2)) | ((with_reducible refine PickK.split (fun hc => ?_) (fun hc => ?_)) <;> (have hc2 := hc; try simp only [beq_eq_false_iff_ne, beq_iff_eq, ne_eq, bne_iff_ne, bne_eq_false_iff_eq, decide_eq_true_eq, decide_eq_false_iff_not, Bool.not_true, Bool.not_false, Int.not_le, Int.not_lt] at hc2)) | (with_reducible refine dop_buildSlice ?_) | (with_reducible refine dop_build ?_) | ((with_reducible refine GuardD.split (fun hc => ?_) (fun hc => ?_)) <;> (have hc2 := hc; try simp only [beq_eq_false_iff_ne, beq_iff_eq, ne_eq, bne_iff_ne, bne_eq_false_iff_eq, decide_eq_true_eq, decide_eq_false_iff_not, Bool.not_true, Bool.not_false, Int.not_le, Int.not_lt] at hc2)) | (with_reducible refine stp_build ?_) | (with_reducible refine stp_buildSlice ?_) | (with_reducible refine stp_store ?_) | (with_reducible refine stp_ns ?_) | (with_reducible refine NsB.intro (fun h' ho K' hk => by simp -implicitDefEqProofs (maxSteps := 1000000) only [go_sem, seval, *] <;> exact hk) ?_) | (with_reducible refine WrB.intro _ (by simp -implicitDefEqProofs (maxSteps := 1000000) only [go_sem, seval, *]) (fun h' ho K' hk => by simp -implicitDefEqProofs (maxSteps := 1000000) only [go_sem, seval, *]; exact hk) (fun h' ho K' hk => by simp -implicitDefEqProofs (maxSteps := 1000000) only [go_sem, seval, *] at hk; exact hk) (fun h' ho hk => by simp -implicitDefEqProofs (maxSteps := 1000000) only [go_sem, seval, *] at hk <;> with_unfolding_all exact False.elim hk) ?_) | (with_reducible refine WrB.intro _ (by simp -implicitDefEqProofs (maxSteps := 1000000) only [go_sem, seval, *]) (fun h' ho K' hk => by simp -implicitDefEqProofs (maxSteps := 1000000) only [go_sem, seval, *]; exact hk) ?_) | ((with_reducible refine DDraw.auto mo ?_ ?_); kernel_rfl)) <;> simp -implicitDefEqProofs (maxSteps := 1000000) only [go_sem, seval, *]) | (with_reducible refine bi_same ?_))
    refine ⟨_, ?_, hKo.out⟩
    refine sub_setP (by simp -implicitDefEqProofs (maxSteps := 1000000) only [go_sem, seval, *]) (sub_setP (by simp -implicitDefEqProofs (maxSteps := 1000000) only [go_sem, seval, *]) (sub_setP (by simp -implicitDefEqProofs (maxSteps := 1000000) only [go_sem, seval, *]) fun y u e => ?_))
    have a0 := S0ne y u e
    have a2 : y ≠ gF := by rintro rfl; rw [dF] at e; cases e
    have a3 : y ≠ gL := by rintro rfl; rw [dL] at e; cases e
    have a4 : y ≠ gf := by rintro rfl; rw [df] at e; cases e
    have a5 : y ≠ L := by rintro rfl; rw [qL] at e; cases e
    have a6 : y ≠ D := by rintro rfl; rw [qD] at e; cases e
    have a7 : y ≠ b1 := by rintro rfl; rw [qb1] at e; cases e
    have a8 : y ≠ b2 := by rintro rfl; rw [qb2] at e; cases e
    have a9 : h'.own y = some u := m0 y u (by rw [hSd]; simp -implicitDefEqProofs (maxSteps := 1000000) only [go_sem, seval, *])
    simp -implicitDefEqProofs (maxSteps := 1000000) only [go_sem, seval, *]

end Go.Proofs.Ytlblahfndlgfmaa
