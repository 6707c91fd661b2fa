/-
  Walks. Conditions: none.
-/
import Derived.Test.YtlblahfndlgfmaaG4
set_option linter.unusedVariables false
set_option linter.unusedSimpArgs false
namespace Go.Proofs.Ytlblahfndlgfmaa
open Go.RowKit Go.SL
set_option maxHeartbeats 1000000
set_option maxRecDepth 1000000
attribute [local go_sem] fl_getD fl_get fl_set lk_def st_def gL_nil gL_zero gL_succ sL_nil_zero sL_nil_succ sL_zero sL_succ Option.getD_none FgK_app onlyL_nil onlyL_none onlyL_some setO_some toB_bool toB_undef yl_def
attribute [local go_sem high] GuardK_yl GuardL_yl
attribute [local go_sem] initL_one initL_cons lastL_one lastL_cons LastK_app fin_round Fr.inr_w0 Fr.inr_ro Fr.inr_M cell_inr LoopO_some YieldK_some RoundQ_normal RoundQ_ret RoundQ_exit EndR_none EndR_some BegK_app BegR_some OutR_none OutR_ret OutR_exit LeftR_some LeftK_app
attribute [local go_sem] i64w
attribute [local go_sem] add_none
theorem neG {a b : Nat} (h : a ≠ b) : a ≠ b ∧ b ≠ a := ⟨h, Ne.symm h⟩
/-- What is owned while a list is gone through. -/
def SqI (F : Fr) (S : Hp) (L D g2 : Nat) (rec : Loop) (xs : List Int) (j : Nat) (h : Hp) : Prop :=
  (∀ g o, S.own g = some o → h.own g = some o) ∧ h.own L = some (.loop rec) ∧ h.own D = some (.deferred (some [])) ∧ ∃ v : Value, h.own g2 = some (.cells #[v] 31) ∧
    Own F h 3 1 v j (ints (xs.take j)) ∧ (∀ x, blk v = some x → S.own x = none ∧ x ≠ L ∧ x ≠ D ∧ x ≠ g2)
set_option maxHeartbeats 8000000 in
theorem appSeq_D (F : Fr) (hT : F.top = true) (h : Hp) (K : Value → Hp → Prop) (n b off c b1 : Nat) (xs : List Int) (hN : Hold ((1 ≤ n ∧ n ≤ 1000) ∧ xs.length = n))
    (s1 : h.own b1 = some (.cells #[.slice (some ⟨b, off, none⟩) n c] 31)) (hrd : Hold (readI (h.cell? F) b off n = some xs)) (z1 : F.w0.heap.size ≤ b1)
    (hK : Hold (∀ v h', (∀ g o, h.own g = some o → h'.own g = some o) → Own F h' 3 1 v n (ints xs) → (∀ x, blk v = some x → h.own x = none) → K v h')) :
    DCall Try.prog F 76 #[.slice none 0 0, .func (.func 72) #[] #[.pointer (some ⟨b1, 0, none⟩)]] h K := by
  refine DCall.weak ?_
  (refine DCall.inlP (l := _) Try.func76 Try.ntmps76 rfl rfl (by simp only [seval, List.length_cons, List.length_nil]) (by simp only [seval, List.length_cons, List.length_nil]) ?_; simp only [Try.results76, List.map_cons, List.map_nil])
  repeat' (first | (with_reducible refine at_seq (by with_unfolding_all exact rfl) ?_) | ((first | (with_reducible refine at_plain (by with_unfolding_all exact rfl) ?_) | (with_reducible refine at_draw (by with_unfolding_all exact rfl) ?_) | (with_reducible refine at_cond (by with_unfolding_all exact rfl) ?_) | (with_reducible refine at_exit (by with_unfolding_all exact rfl) ?_) | (with_reducible refine at_ret (by with_unfolding_all exact rfl) ?_) | (with_reducible refine at_skip (by with_unfolding_all exact rfl) ?_) | (with_reducible refine at_label (by with_unfolding_all exact rfl) ?_)) <;> try simp -implicitDefEqProofs (maxSteps := 1000000) only [go_sem, seval, *]) | (with_reducible refine at_block (by with_unfolding_all exact rfl) ?_) | (with_reducible refine at_loop (by with_unfolding_all exact rfl) ?_) | ((first | ((with_reducible refine NewK.intro fun g hg hn => ?_) <;> try simp only [own_none_iff] at hn) | ((with_reducible refine GuardB.split (fun hc => ?_) (fun hc => ?_)) <;> (have hc2 := hc; try simp only [beq_eq_false_iff_ne, beq_iff_eq, ne_eq, bne_iff_ne, bne_eq_false_iff_eq, decide_eq_true_eq, decide_eq_false_iff_not, Bool.not_true, Bool.not_false, Int.not_le, Int.not_lt] at hc2)) | ((with_reducible refine CondK.split (fun hc => ?_) (fun hc => ?_)) <;> (have hc2 := hc; try simp only [beq_eq_false_iff_ne, beq_iff_eq, ne_eq, bne_iff_ne, bne_eq_false_iff_eq, decide_eq_true_eq, decide_eq_false_iff_not, Bool.not_true, Bool.not_false, Int.not_le, Int.not_lt] at hc2)) | ((with_reducible refine PickK.split (fun hc => ?_) (fun hc => ?_)) <;> (have hc2 := hc; try simp only [beq_eq_false_iff_ne, beq_iff_eq, ne_eq, bne_iff_ne, bne_eq_false_iff_eq, decide_eq_true_eq, decide_eq_false_iff_not, Bool.not_true, Bool.not_false, Int.not_le, Int.not_lt] at hc2)) | (with_reducible refine dop_buildSlice ?_) | (with_reducible refine dop_build ?_) | ((with_reducible refine GuardD.split (fun hc => ?_) (fun hc => ?_)) <;> (have hc2 := hc; try simp only [beq_eq_false_iff_ne, beq_iff_eq, ne_eq, bne_iff_ne, bne_eq_false_iff_eq, decide_eq_true_eq, decide_eq_false_iff_not, Bool.not_true, Bool.not_false, Int.not_le, Int.not_lt] at hc2)) | (with_reducible refine stp_build ?_) | (with_reducible refine stp_buildSlice ?_) | (with_reducible refine stp_store ?_) | (with_reducible refine stp_ns ?_) | (with_reducible refine NsB.intro (fun h' ho K' hk => by simp -implicitDefEqProofs (maxSteps := 1000000) only [go_sem, seval, *] <;> exact hk) ?_) | (with_reducible refine WrB.intro _ (by simp -implicitDefEqProofs (maxSteps := 1000000) only [go_sem, seval, *]) (fun h' ho K' hk => by simp -implicitDefEqProofs (maxSteps := 1000000) only [go_sem, seval, *]; exact hk) (fun h' ho K' hk => by simp -implicitDefEqProofs (maxSteps := 1000000) only [go_sem, seval, *] at hk; exact hk) (fun h' ho hk => by simp -implicitDefEqProofs (maxSteps := 1000000) only [go_sem, seval, *] at hk <;> with_unfolding_all exact False.elim hk) ?_) | (with_reducible refine WrB.intro _ (by simp -implicitDefEqProofs (maxSteps := 1000000) only [go_sem, seval, *]) (fun h' ho K' hk => by simp -implicitDefEqProofs (maxSteps := 1000000) only [go_sem, seval, *]; exact hk) ?_) | ((with_reducible refine DDraw.auto mo ?_ ?_); kernel_rfl)) <;> simp -implicitDefEqProofs (maxSteps := 1000000) only [go_sem, seval, *]) | (with_reducible refine bi_same ?_))
  generalize hgg : g = g2 at *
  clear hgg
  refine at_rangeFunc (by with_unfolding_all exact rfl) ?_
  refine DWp.rangeFunc (gf := 72) (lb := #[.pointer (some ⟨b1, 0, none⟩)]) hT (by simp -implicitDefEqProofs (maxSteps := 1000000) only [go_sem, seval, *]) (by unfold entB; rw [Try.func72]; rfl) (fun D hD1 hD2 L hL1 hL2 fn => ?_)
  simp only [own_none_iff] at hD2 hL2
  generalize hrec : recL fn _ _ _ _ D = rec
  have es : rec.state = .ready := by rw [← hrec]; rfl
  have en : rec.pending = none := by rw [← hrec]; rfl
  have ea : rec.assign = _ := congrArg Loop.assign hrec.symm
  have eb : rec.body = _ := congrArg Loop.body hrec.symm
  have et : rec.tmps = _ := congrArg Loop.tmps hrec.symm
  have ep : rec.params = _ := congrArg Loop.params hrec.symm
  simp only [recL] at ea eb et ep
  replace ea := Hold.mk ea
  replace eb := Hold.mk eb
  replace et := Hold.mk et
  replace ep := Hold.mk ep
  have er : ({ state := .ready, pending := none, fn := rec.fn, tmps := rec.tmps, params := rec.params, assign := rec.assign, body := rec.body, defers := rec.defers } : Loop) = rec := by rw [← hrec]; rfl
  have hne : ∀ y o, h.own y = some o → y ≠ g2 ∧ y ≠ L ∧ y ≠ D := fun y o e => by
    have q := own_ne e
    refine ⟨(q g2 hn).1, (q L (by simp only [hL2])).1, (q D (by simp only [hD2])).1⟩
  show DCall Try.prog F 72 #[.func (.yield L) #[] #[], .pointer (some ⟨b1, 0, none⟩)] _ _
  refine values_D F _ _ n b off c b1 L xs h (SqI F h L D g2 rec xs) ⟨by have := hN.out; omega, hN.out.2⟩ s1 hrd z1 ⟨fun j h' q => ⟨q.1, rec, q.2.1, by rw [ep.out]; rfl⟩⟩ ⟨?_⟩ ?_ ⟨?_⟩
  · intro j h' K' x hx q hk rr hrr
    obtain ⟨m0, m1, m2, v1, m3, o1, d1⟩ := q
    obtain rfl : rec = rr := by rw [m1] at hrr; cases hrr; rfl
    have hjn : j < n := by rw [← hN.out.2]; exact (List.getElem?_eq_some_iff.1 hx).1
    have tk : xs.take (j + 1) = xs.take j ++ [x] := by rw [List.take_add_one, hx]; rfl
    have y1 : blk v1 ≠ some g2 := fun e => (d1 g2 e).2.2.2 rfl
    have y1L : blk v1 ≠ some L := fun e => (d1 L e).2.1 rfl
    have y1D : blk v1 ≠ some D := fun e => (d1 D e).2.2.1 rfl
    have w1 := own_ne m1
    have w2 := own_ne m2
    have w3 := own_ne m3
    replace hk := Hold.mk hk
    clear hrr
    refine DRound.intro ?_
    simp only [ea.out, eb.out, et.out, ep.out, fold1]
    clear hrec
    simp -implicitDefEqProofs (maxSteps := 1000000) only [go_sem, seval, *]
    repeat' (first | (with_reducible refine at_seq (by with_unfolding_all exact rfl) ?_) | ((first | (with_reducible refine at_plain (by with_unfolding_all exact rfl) ?_) | (with_reducible refine at_draw (by with_unfolding_all exact rfl) ?_) | (with_reducible refine at_cond (by with_unfolding_all exact rfl) ?_) | (with_reducible refine at_exit (by with_unfolding_all exact rfl) ?_) | (with_reducible refine at_ret (by with_unfolding_all exact rfl) ?_) | (with_reducible refine at_skip (by with_unfolding_all exact rfl) ?_) | (with_reducible refine at_label (by with_unfolding_all exact rfl) ?_)) <;> try simp -implicitDefEqProofs (maxSteps := 1000000) only [go_sem, seval, *]) | (with_reducible refine at_block (by with_unfolding_all exact rfl) ?_) | (with_reducible refine at_loop (by with_unfolding_all exact rfl) ?_) | ((first | ((with_reducible refine NewK.intro_inr fun g hg hn => ?_); try simp only [own_none_iff] at hn) | ((with_reducible refine NewK.intro fun g hg hn => ?_) <;> try simp only [own_none_iff] at hn) | ((with_reducible refine GuardB.split (fun hc => ?_) (fun hc => ?_)) <;> (have hc2 := hc; try simp only [beq_eq_false_iff_ne, beq_iff_eq, ne_eq, bne_iff_ne, bne_eq_false_iff_eq, decide_eq_true_eq, decide_eq_false_iff_not, Bool.not_true, Bool.not_false, Int.not_le, Int.not_lt] at hc2)) | ((with_reducible refine CondK.split (fun hc => ?_) (fun hc => ?_)) <;> (have hc2 := hc; try simp only [beq_eq_false_iff_ne, beq_iff_eq, ne_eq, bne_iff_ne, bne_eq_false_iff_eq, decide_eq_true_eq, decide_eq_false_iff_not, Bool.not_true, Bool.not_false, Int.not_le, Int.not_lt] at hc2)) | ((with_reducible refine PickK.split (fun hc => ?_) (fun hc => ?_)) <;> (have hc2 := hc; try simp only [beq_eq_false_iff_ne, beq_iff_eq, ne_eq, bne_iff_ne, bne_eq_false_iff_eq, decide_eq_true_eq, decide_eq_false_iff_not, Bool.not_true, Bool.not_false, Int.not_le, Int.not_lt] at hc2)) | (with_reducible refine dop_buildSlice ?_) | (with_reducible refine dop_build ?_) | ((with_reducible refine GuardD.split (fun hc => ?_) (fun hc => ?_)) <;> (have hc2 := hc; try simp only [beq_eq_false_iff_ne, beq_iff_eq, ne_eq, bne_iff_ne, bne_eq_false_iff_eq, decide_eq_true_eq, decide_eq_false_iff_not, Bool.not_true, Bool.not_false, Int.not_le, Int.not_lt] at hc2)) | (with_reducible refine stp_build ?_) | (with_reducible refine stp_buildSlice ?_) | (with_reducible refine stp_store ?_) | (with_reducible refine stp_ns ?_) | (with_reducible refine NsB.intro (fun h' ho K' hk => by simp -implicitDefEqProofs (maxSteps := 1000000) only [go_sem, seval, *] <;> exact hk) ?_) | (with_reducible refine WrB.intro _ (by simp -implicitDefEqProofs (maxSteps := 1000000) only [go_sem, seval, *]) (fun h' ho K' hk => by simp -implicitDefEqProofs (maxSteps := 1000000) only [go_sem, seval, *]; exact hk) (fun h' ho K' hk => by simp -implicitDefEqProofs (maxSteps := 1000000) only [go_sem, seval, *] at hk; exact hk) (fun h' ho hk => by simp -implicitDefEqProofs (maxSteps := 1000000) only [go_sem, seval, *] at hk <;> with_unfolding_all exact False.elim hk) ?_) | (with_reducible refine WrB.intro _ (by simp -implicitDefEqProofs (maxSteps := 1000000) only [go_sem, seval, *]) (fun h' ho K' hk => by simp -implicitDefEqProofs (maxSteps := 1000000) only [go_sem, seval, *]; exact hk) ?_) | ((with_reducible refine DDraw.auto mo ?_ ?_); kernel_rfl)) <;> simp -implicitDefEqProofs (maxSteps := 1000000) only [go_sem, seval, *]) | (with_reducible refine bi_same ?_))
    have bo1 := (o1.other (ob := .loop { state := .busy, pending := none, fn := rec.fn, tmps := rec.tmps, params := rec.params, assign := rec.assign, body := rec.body, defers := rec.defers }) y1L).other (g := g) (ob := .cells #[.int .i64 x] 3) (o1.nblk g hn.2.2)
    have hg1 : F.w0.heap.size ≤ g := hg
    have nb := hN.out
    refine AppD.own (F := F.inr) Try.underlying31 inf_intG (by decide) (by decide) bo1 (ys := [.int .i64 x]) (by simp -implicitDefEqProofs (maxSteps := 1000000) only [go_sem, seval, *]) one_aggG (by omega) fun u1 gA obA hA bA r1 => ?_
    have aL := neG (fresh_ne (x := L) hA y1L (by simp -implicitDefEqProofs (maxSteps := 1000000) only [go_sem, seval, *]; rfl))
    have aD := neG (fresh_ne (x := D) hA y1D (by simp -implicitDefEqProofs (maxSteps := 1000000) only [go_sem, seval, *]; rfl))
    have a2 := neG (fresh_ne (x := g2) hA y1 (by simp -implicitDefEqProofs (maxSteps := 1000000) only [go_sem, seval, *]; rfl))
    have sA : h.own gA = none := by
      rcases hA with e | ⟨e, _⟩
      · exact (d1 gA e).1
      · simp only [own_none_iff] at e
        exact kept_none m0 e.2.2.2.2
    obtain ⟨pu, cu, rfl⟩ := r1.len
    have keepS : Hold (∀ y o, h.own y = some o → y ≠ L ∧ y ≠ gA ∧ y ≠ g ∧ y ≠ g2 ∧ h'.own y = some o) := ⟨fun y o e => by
      have e1 := m0 y o e
      have n1 := own_ne e1
      have q := hne y o e
      refine ⟨q.2.1, ?_, (n1 g hn.2.2).1, q.1, e1⟩
      rintro rfl; rw [sA] at e; cases e⟩
    clear hA bo1 o1 m0 y1L y1D d1
    simp -implicitDefEqProofs (maxSteps := 1000000) only [go_sem, seval, *]
    repeat' (first | (with_reducible refine at_seq (by with_unfolding_all exact rfl) ?_) | ((first | (with_reducible refine at_plain (by with_unfolding_all exact rfl) ?_) | (with_reducible refine at_draw (by with_unfolding_all exact rfl) ?_) | (with_reducible refine at_cond (by with_unfolding_all exact rfl) ?_) | (with_reducible refine at_exit (by with_unfolding_all exact rfl) ?_) | (with_reducible refine at_ret (by with_unfolding_all exact rfl) ?_) | (with_reducible refine at_skip (by with_unfolding_all exact rfl) ?_) | (with_reducible refine at_label (by with_unfolding_all exact rfl) ?_)) <;> try simp -implicitDefEqProofs (maxSteps := 1000000) only [go_sem, seval, *]) | (with_reducible refine at_block (by with_unfolding_all exact rfl) ?_) | (with_reducible refine at_loop (by with_unfolding_all exact rfl) ?_) | ((first | ((with_reducible refine NewK.intro fun g hg hn => ?_) <;> try simp only [own_none_iff] at hn) | ((with_reducible refine GuardB.split (fun hc => ?_) (fun hc => ?_)) <;> (have hc2 := hc; try simp only [beq_eq_false_iff_ne, beq_iff_eq, ne_eq, bne_iff_ne, bne_eq_false_iff_eq, decide_eq_true_eq, decide_eq_false_iff_not, Bool.not_true, Bool.not_false, Int.not_le, Int.not_lt] at hc2)) | ((with_reducible refine CondK.split (fun hc => ?_) (fun hc => ?_)) <;> (have hc2 := hc; try simp only [beq_eq_false_iff_ne, beq_iff_eq, ne_eq, bne_iff_ne, bne_eq_false_iff_eq, decide_eq_true_eq, decide_eq_false_iff_not, Bool.not_true, Bool.not_false, Int.not_le, Int.not_lt] at hc2)) | ((with_reducible refine PickK.split (fun hc => ?_) (fun hc => ?_)) <;> (have hc2 := hc; try simp only [beq_eq_false_iff_ne, beq_iff_eq, ne_eq, bne_iff_ne, bne_eq_false_iff_eq, decide_eq_true_eq, decide_eq_false_iff_not, Bool.not_true, Bool.not_false, Int.not_le, Int.not_lt] at hc2)) | (with_reducible refine dop_buildSlice ?_) | (with_reducible refine dop_build ?_) | ((with_reducible refine GuardD.split (fun hc => ?_) (fun hc => ?_)) <;> (have hc2 := hc; try simp only [beq_eq_false_iff_ne, beq_iff_eq, ne_eq, bne_iff_ne, bne_eq_false_iff_eq, decide_eq_true_eq, decide_eq_false_iff_not, Bool.not_true, Bool.not_false, Int.not_le, Int.not_lt] at hc2)) | (with_reducible refine stp_build ?_) | (with_reducible refine stp_buildSlice ?_) | (with_reducible refine stp_store ?_) | (with_reducible refine stp_ns ?_) | (with_reducible refine NsB.intro (fun h' ho K' hk => by simp -implicitDefEqProofs (maxSteps := 1000000) only [go_sem, seval, *] <;> exact hk) ?_) | (with_reducible refine WrB.intro _ (by simp -implicitDefEqProofs (maxSteps := 1000000) only [go_sem, seval, *]) (fun h' ho K' hk => by simp -implicitDefEqProofs (maxSteps := 1000000) only [go_sem, seval, *]; exact hk) (fun h' ho K' hk => by simp -implicitDefEqProofs (maxSteps := 1000000) only [go_sem, seval, *] at hk; exact hk) (fun h' ho hk => by simp -implicitDefEqProofs (maxSteps := 1000000) only [go_sem, seval, *] at hk <;> with_unfolding_all exact False.elim hk) ?_) | (with_reducible refine WrB.intro _ (by simp -implicitDefEqProofs (maxSteps := 1000000) only [go_sem, seval, *]) (fun h' ho K' hk => by simp -implicitDefEqProofs (maxSteps := 1000000) only [go_sem, seval, *]; exact hk) ?_) | ((with_reducible refine DDraw.auto mo ?_ ?_); kernel_rfl)) <;> simp -implicitDefEqProofs (maxSteps := 1000000) only [go_sem, seval, *]) | (with_reducible refine bi_same ?_))
    refine hk.out _ ?_
    refine ⟨fun y o e => ?_, by simp -implicitDefEqProofs (maxSteps := 1000000) only [go_sem, seval, *], by simp -implicitDefEqProofs (maxSteps := 1000000) only [go_sem, seval, *], .slice pu (j + 1) cu, by simp -implicitDefEqProofs (maxSteps := 1000000) only [go_sem, seval, *], ?_, ?_⟩
    · obtain ⟨n1, n2, n3, n4, e1⟩ := keepS.out y o e
      rw [Hp.own_set, if_neg n1, Hp.own_set, if_neg n4, Hp.own_set, if_neg n2, Hp.own_set, if_neg n3, Hp.own_set, if_neg n1]
      exact e1
    · rw [tk, ints_snoc]
      exact (r1.other (by rw [bA]; intro e; cases e; exact a2.1 rfl)).other (by rw [bA]; intro e; cases e; exact aL.1 rfl)
    · intro x e
      rw [bA] at e; cases e; exact ⟨sA, aL.1, aD.1, a2.1⟩
  · refine ⟨fun y o e => ?_, by simp -implicitDefEqProofs (maxSteps := 1000000) only [go_sem, seval, *], by simp -implicitDefEqProofs (maxSteps := 1000000) only [go_sem, seval, *], .slice none 0 0, by simp -implicitDefEqProofs (maxSteps := 1000000) only [go_sem, seval, *], Own.nil, by simp [blk]⟩
    have q := hne y o e
    simp -implicitDefEqProofs (maxSteps := 1000000) only [go_sem, seval, *]
  · intro h' q
    obtain ⟨m0, m1, m2, v1, m3, o1, d1⟩ := q
    rw [List.take_of_length_le (by have := hN.out; omega)] at o1
    simp only [LeftK_app, m1, LeftR_some, en, OutR_none, es]
    refine ⟨(by intro hx; cases hx), ?_⟩
    have hfin := Hold.mk (hK.out v1 ((h'.drop L).drop D) (fun y o e => by
      have e1 : ((h'.drop L).drop D).own y = if y = D then none else if y = L then none else h'.own y := rfl
      rw [e1, if_neg (hne y o e).2.2, if_neg (hne y o e).2.1]
      exact m0 y o e) ((o1.drop (g := L) (fun e => (d1 L e).2.1 rfl)).drop (g := D) (fun e => (d1 D e).2.2.1 rfl)) (fun x e => (d1 x e).1))
    have w1 := own_ne m1
    have w2 := own_ne m2
    have w3 := own_ne m3
    clear o1 d1 m0 hK
    simp -implicitDefEqProofs (maxSteps := 1000000) only [go_sem, seval, *]
    repeat' (first | (with_reducible refine at_seq (by with_unfolding_all exact rfl) ?_) | ((first | (with_reducible refine at_plain (by with_unfolding_all exact rfl) ?_) | (with_reducible refine at_draw (by with_unfolding_all exact rfl) ?_) | (with_reducible refine at_cond (by with_unfolding_all exact rfl) ?_) | (with_reducible refine at_exit (by with_unfolding_all exact rfl) ?_) | (with_reducible refine at_ret (by with_unfolding_all exact rfl) ?_) | (with_reducible refine at_skip (by with_unfolding_all exact rfl) ?_) | (with_reducible refine at_label (by with_unfolding_all exact rfl) ?_)) <;> try simp -implicitDefEqProofs (maxSteps := 1000000) only [go_sem, seval, *]) | (with_reducible refine at_block (by with_unfolding_all exact rfl) ?_) | (with_reducible refine at_loop (by with_unfolding_all exact rfl) ?_) | ((first | ((with_reducible refine NewK.intro fun g hg hn => ?_) <;> try simp only [own_none_iff] at hn) | ((with_reducible refine GuardB.split (fun hc => ?_) (fun hc => ?_)) <;> (have hc2 := hc; try simp only [beq_eq_false_iff_ne, beq_iff_eq, ne_eq, bne_iff_ne, bne_eq_false_iff_eq, decide_eq_true_eq, decide_eq_false_iff_not, Bool.not_true, Bool.not_false, Int.not_le, Int.not_lt] at hc2)) | ((with_reducible refine CondK.split (fun hc => ?_) (fun hc => ?_)) <;> (have hc2 := hc; try simp only [beq_eq_false_iff_ne, beq_iff_eq, ne_eq, bne_iff_ne, bne_eq_false_iff_eq, decide_eq_true_eq, decide_eq_false_iff_not, Bool.not_true, Bool.not_false, Int.not_le, Int.not_lt] at hc2)) | ((with_reducible refine PickK.split (fun hc => ?_) (fun hc => ?_)) <;> (have hc2 := hc; try simp only [beq_eq_false_iff_ne, beq_iff_eq, ne_eq, bne_iff_ne, bne_eq_false_iff_eq, decide_eq_true_eq, decide_eq_false_iff_not, Bool.not_true, Bool.not_false, Int.not_le, Int.not_lt] at hc2)) | (with_reducible refine dop_buildSlice ?_) | (with_reducible refine dop_build ?_) | ((with_reducible refine GuardD.split (fun hc => ?_) (fun hc => ?_)) <;> (have hc2 := hc; try simp only [beq_eq_false_iff_ne, beq_iff_eq, ne_eq, bne_iff_ne, bne_eq_false_iff_eq, decide_eq_true_eq, decide_eq_false_iff_not, Bool.not_true, Bool.not_false, Int.not_le, Int.not_lt] at hc2)) | (with_reducible refine stp_build ?_) | (with_reducible refine stp_buildSlice ?_) | (with_reducible refine stp_store ?_) | (with_reducible refine stp_ns ?_) | (with_reducible refine NsB.intro (fun h' ho K' hk => by simp -implicitDefEqProofs (maxSteps := 1000000) only [go_sem, seval, *] <;> exact hk) ?_) | (with_reducible refine WrB.intro _ (by simp -implicitDefEqProofs (maxSteps := 1000000) only [go_sem, seval, *]) (fun h' ho K' hk => by simp -implicitDefEqProofs (maxSteps := 1000000) only [go_sem, seval, *]; exact hk) (fun h' ho K' hk => by simp -implicitDefEqProofs (maxSteps := 1000000) only [go_sem, seval, *] at hk; exact hk) (fun h' ho hk => by simp -implicitDefEqProofs (maxSteps := 1000000) only [go_sem, seval, *] at hk <;> with_unfolding_all exact False.elim hk) ?_) | (with_reducible refine WrB.intro _ (by simp -implicitDefEqProofs (maxSteps := 1000000) only [go_sem, seval, *]) (fun h' ho K' hk => by simp -implicitDefEqProofs (maxSteps := 1000000) only [go_sem, seval, *]; exact hk) ?_) | ((with_reducible refine DDraw.auto mo ?_ ?_); kernel_rfl)) <;> simp -implicitDefEqProofs (maxSteps := 1000000) only [go_sem, seval, *]) | (with_reducible refine bi_same ?_))
    refine ⟨_, fun y o e => ?_, hfin.out⟩
    have e1 : ((h'.drop L).drop D).own y = if y = D then none else if y = L then none else h'.own y := rfl
    rw [e1] at e
    by_cases q1 : y = D
    · rw [if_pos q1] at e; cases e
    · rw [if_neg q1] at e ⊢
      exact e

end Go.Proofs.Ytlblahfndlgfmaa
