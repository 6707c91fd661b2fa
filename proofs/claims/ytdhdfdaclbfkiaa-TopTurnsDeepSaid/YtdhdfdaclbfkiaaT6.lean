/-
  Walks. Conditions: none.
-/
import Derived.Test.YtdhdfdaclbfkiaaT5
set_option linter.unusedVariables false
set_option linter.unusedSimpArgs false
namespace Go.Proofs.Ytdhdfdaclbfkiaa
open Go.RowKit Go.SL
set_option maxHeartbeats 1000000
set_option maxRecDepth 1000000
attribute [local go_sem] fl_getD fl_get fl_set lk_def st_def gL_nil gL_zero gL_succ sL_nil_zero sL_nil_succ sL_zero sL_succ Option.getD_none FgK_app onlyL_nil onlyL_none onlyL_some setO_some toB_bool toB_undef yl_def
attribute [local go_sem high] GuardK_yl GuardL_yl
attribute [local go_sem] i64w
attribute [local go_sem] add_none
theorem inf_turn : okInfo Try.prog 70 2 16 = true := by kernel_rfl
def keepT (h h' : Hp) : Prop := ∀ g o, h.own g = some o → h'.own g = some o
theorem keepT.set {h h' : Hp} {g : Nat} {o : Obj} (k : keepT h h') (hg : h.own g = none) : keepT h (h'.set g o) := fun b ob hb => by
  rw [Hp.own_set, if_neg (by rintro rfl; rw [hg] at hb; cases hb)]
  exact k b ob hb
theorem keepT.none {h h' : Hp} (k : keepT h h') {g : Nat} (e : h'.own g = none) : h.own g = none := by
  cases he : h.own g with
  | none => rfl
  | some o => rw [k g o he] at e; cases e
theorem ne2 {a b : Nat} (h : a ≠ b) : a ≠ b ∧ b ≠ a := ⟨h, Ne.symm h⟩
/-- The turns of a perfect thread, wider by some on each side. -/
def prT (p w : Int) (k : Nat) : Int × Int := ((k : Int) * p - p / 4 - w, (k : Int) * p + p / 4 + w)
def prL (p w : Int) (n : Nat) : List (Int × Int) := (List.range n).map (prT p w)
theorem prL_succ {p w : Int} {n : Nat} : prL p w (n + 1) = prL p w n ++ [prT p w n] := by
  unfold prL
  rw [List.range_succ, List.map_append]
  rfl
theorem prL_len {p w : Int} {n : Nat} : (prL p w n).length = n := by unfold prL; simp
theorem tn_agg (p : Int × Int) : ∀ y ∈ tnC p, notAgg y = true := by simp [tnC, notAgg]
def IPf (p l r ua ub us ut w : Int) (lh : Bool) (n g3 g6 g7 : Nat) (F : Fr) (h0 : Hp) (k' : Nat) (a : Act) (h : Hp) : Prop :=
  ∃ (j : Nat) (v : Value) (x : Nat → Value), Hold (j + k' = n) ∧ Hold (keepT h0 h) ∧ h.own g3 = some (.cells #[.int .i64 p, .int .i64 l, .int .i64 r, .int .i64 ua, .int .i64 ub, .int .i64 us, .bool lh, .int .i64 ut] 56) ∧ h.own g6 = some (.cells #[.slice none 0 0, .int .i64 0, .int .i64 0] 67) ∧ h.own g7 = some (.cells #[v, .int .i64 l, .int .i64 r] 67) ∧ Own F h 70 2 v j ((prL p w j).flatMap tnC) ∧ Hold (∀ x, x = g3 ∨ x = g6 ∨ x = g7 → blk v ≠ some x ∧ h0.own x = none) ∧ Hold (∀ x, blk v = some x → h0.own x = none) ∧ a = ⟨fl 46 x [[none, some (.int .i64 n), some (.int .i64 w), some (.pointer (some ⟨g3, 0, none⟩)), none, none, some (.pointer (some ⟨g6, 0, none⟩)), some (.pointer (some ⟨g7, 0, none⟩)), some (.int .i64 j)]], []⟩
set_option maxHeartbeats 8000000 in
theorem armPerfect_D (F : Fr) (h : Hp) (K : Value → Hp → Prop) (n : Nat) (p l r ua ub us ut w : Int) (lh : Bool) (hN : Hold (n ≤ 60)) (hp : Hold (0 ≤ p ∧ p ≤ 200000)) (hw : Hold (-10000 ≤ w ∧ w ≤ 10000))
    (k1 : ∀ v' h', keepT h h' → (∀ x, blk v' = some x → h.own x = none) → Own F h' 70 2 v' n ((prL p w n).flatMap tnC) → K (.agg #[v', .int .i64 l, .int .i64 r]) h') :
    DCall Try.prog F 24 #[.agg #[.int .i64 p, .int .i64 l, .int .i64 r, .int .i64 ua, .int .i64 ub, .int .i64 us, .bool lh, .int .i64 ut], .int .i64 n, .int .i64 w] h K := by
  replace k1 := Hold.mk k1
  refine DCall.weak ?_
  (refine DCall.inlP (l := _) Try.func24 Try.ntmps24 rfl rfl (by simp only [seval, List.length_cons, List.length_nil]) (by simp only [seval, List.length_cons, List.length_nil]) ?_; simp only [Try.results24, List.map_cons, List.map_nil])
  repeat' (first | (with_reducible refine at_seq (by with_unfolding_all exact rfl) ?_) | ((first | (with_reducible refine at_plain (by with_unfolding_all exact rfl) ?_) | (with_reducible refine at_draw (by with_unfolding_all exact rfl) ?_) | (with_reducible refine at_cond (by with_unfolding_all exact rfl) ?_) | (with_reducible refine at_exit (by with_unfolding_all exact rfl) ?_) | (with_reducible refine at_ret (by with_unfolding_all exact rfl) ?_) | (with_reducible refine at_skip (by with_unfolding_all exact rfl) ?_) | (with_reducible refine at_label (by with_unfolding_all exact rfl) ?_)) <;> try simp -implicitDefEqProofs (maxSteps := 1000000) only [go_sem, seval, *]) | (with_reducible refine at_block (by with_unfolding_all exact rfl) ?_) | (with_reducible refine at_loop (by with_unfolding_all exact rfl) ?_) | ((first | ((with_reducible refine NewK.intro fun g hg hn => ?_) <;> try simp only [own_none_iff] at hn) | ((with_reducible refine GuardB.split (fun hc => ?_) (fun hc => ?_)) <;> (have hc2 := hc; try simp only [beq_eq_false_iff_ne, beq_iff_eq, ne_eq, bne_iff_ne, bne_eq_false_iff_eq, decide_eq_true_eq, decide_eq_false_iff_not, Bool.not_true, Bool.not_false, Int.not_le, Int.not_lt] at hc2)) | ((with_reducible refine CondK.split (fun hc => ?_) (fun hc => ?_)) <;> (have hc2 := hc; try simp only [beq_eq_false_iff_ne, beq_iff_eq, ne_eq, bne_iff_ne, bne_eq_false_iff_eq, decide_eq_true_eq, decide_eq_false_iff_not, Bool.not_true, Bool.not_false, Int.not_le, Int.not_lt] at hc2)) | ((with_reducible refine PickK.split (fun hc => ?_) (fun hc => ?_)) <;> (have hc2 := hc; try simp only [beq_eq_false_iff_ne, beq_iff_eq, ne_eq, bne_iff_ne, bne_eq_false_iff_eq, decide_eq_true_eq, decide_eq_false_iff_not, Bool.not_true, Bool.not_false, Int.not_le, Int.not_lt] at hc2)) | (with_reducible refine dop_buildSlice ?_) | (with_reducible refine dop_build ?_) | ((with_reducible refine GuardD.split (fun hc => ?_) (fun hc => ?_)) <;> (have hc2 := hc; try simp only [beq_eq_false_iff_ne, beq_iff_eq, ne_eq, bne_iff_ne, bne_eq_false_iff_eq, decide_eq_true_eq, decide_eq_false_iff_not, Bool.not_true, Bool.not_false, Int.not_le, Int.not_lt] at hc2)) | (with_reducible refine stp_build ?_) | (with_reducible refine stp_buildSlice ?_) | (with_reducible refine stp_store ?_) | (with_reducible refine stp_ns ?_) | (with_reducible refine NsB.intro (fun h' ho K' hk => by simp -implicitDefEqProofs (maxSteps := 1000000) only [go_sem, seval, *] <;> exact hk) ?_) | (with_reducible refine WrB.intro _ (by simp -implicitDefEqProofs (maxSteps := 1000000) only [go_sem, seval, *]) (fun h' ho K' hk => by simp -implicitDefEqProofs (maxSteps := 1000000) only [go_sem, seval, *]; exact hk) (fun h' ho K' hk => by simp -implicitDefEqProofs (maxSteps := 1000000) only [go_sem, seval, *] at hk; exact hk) (fun h' ho hk => by simp -implicitDefEqProofs (maxSteps := 1000000) only [go_sem, seval, *] at hk <;> with_unfolding_all exact False.elim hk) ?_) | (with_reducible refine WrB.intro _ (by simp -implicitDefEqProofs (maxSteps := 1000000) only [go_sem, seval, *]) (fun h' ho K' hk => by simp -implicitDefEqProofs (maxSteps := 1000000) only [go_sem, seval, *]; exact hk) ?_) | ((with_reducible refine DDraw.auto mo ?_ ?_); kernel_rfl)) <;> simp -implicitDefEqProofs (maxSteps := 1000000) only [go_sem, seval, *]) | (with_reducible refine bi_same ?_))
  rename_i g3 hg3 hn3 g6 hg6 hn6
  generalize hgg : g = g7 at *
  clear hgg
  refine DLoop.ind (IPf p l r ua ub us ut w lh n g3 g6 g7 F h) n ⟨0, .slice none 0 0, _, ⟨by omega⟩, ⟨((keepT.set (fun _ _ e => e) (by simp_all)).set (by simp_all)).set (by simp_all)⟩, (by simp -implicitDefEqProofs (maxSteps := 1000000) only [go_sem, seval, *]), (by simp -implicitDefEqProofs (maxSteps := 1000000) only [go_sem, seval, *]), (by simp -implicitDefEqProofs (maxSteps := 1000000) only [go_sem, seval, *]), Own.nil, ⟨by rintro x (rfl | rfl | rfl) <;> simp_all [blk]⟩, ⟨by simp [blk]⟩, fl_re (by kernel_rfl)⟩ ?_
  generalize hh : h = h0 at *
  clear hh
  (rintro k' a h ⟨j, v, x, fa0, fa1, fa2, fa3, fa4, fa5, fa6, fa7, rfl⟩)
  have hj := fa0.out
  have p5 := fa5.nblk
  have w3 := own_ne fa2
  have w6 := own_ne fa3
  have w7 := own_ne fa4
  have q3 := (fa6.out g3 (by simp)).1
  have q6 := (fa6.out g6 (by simp)).1
  have q7 := (fa6.out g7 (by simp)).1
  have c0 : (0 : Int) ≤ (j : Int) := by omega
  by_cases hlt : j < n
  · have c1 : ((j : Int) < (n : Int)) = True := by simp only [eq_iff_iff, iff_true]; omega
    have iw : IntKind.i64.wrap ((j : Int) + 1) = ((j + 1 : Nat) : Int) := by rw [IntWalk.i64_in _ (by have := hN.out; omega)]; push_cast; rfl
    have pb := hp.out
    have wb := hw.out
    have nb := hN.out
    have m := mul_bd (a := (j : Int)) (b := p) (A := 60) (B := 200000) (by omega) (by omega) (by omega) (by omega)
    have e1 : IntKind.i64.wrap ((j : Int) * p) = (j : Int) * p := IntWalk.i64_in _ (by omega)
    have e2 : IntKind.i64.wrap (p.tdiv 4) = p / 4 := IntWalk.i64_quo _ _ (by omega)
    have e3 : IntKind.i64.wrap ((j : Int) * p - p / 4) = (j : Int) * p - p / 4 := IntWalk.i64_in _ (by omega)
    have e4 : IntKind.i64.wrap ((j : Int) * p - p / 4 - w) = (j : Int) * p - p / 4 - w := IntWalk.i64_in _ (by omega)
    have e5 : IntKind.i64.wrap ((j : Int) * p + p / 4) = (j : Int) * p + p / 4 := IntWalk.i64_in _ (by omega)
    have e6 : IntKind.i64.wrap ((j : Int) * p + p / 4 + w) = (j : Int) * p + p / 4 + w := IntWalk.i64_in _ (by omega)
    clear m pb wb
    repeat' (first | (with_reducible refine at_seq (by with_unfolding_all exact rfl) ?_) | ((first | (with_reducible refine at_plain (by with_unfolding_all exact rfl) ?_) | (with_reducible refine at_draw (by with_unfolding_all exact rfl) ?_) | (with_reducible refine at_cond (by with_unfolding_all exact rfl) ?_) | (with_reducible refine at_exit (by with_unfolding_all exact rfl) ?_) | (with_reducible refine at_ret (by with_unfolding_all exact rfl) ?_) | (with_reducible refine at_skip (by with_unfolding_all exact rfl) ?_) | (with_reducible refine at_label (by with_unfolding_all exact rfl) ?_)) <;> try simp -implicitDefEqProofs (maxSteps := 1000000) only [go_sem, seval, *]) | (with_reducible refine at_block (by with_unfolding_all exact rfl) ?_) | (with_reducible refine at_loop (by with_unfolding_all exact rfl) ?_) | ((first | ((with_reducible refine NewK.intro fun g hg hn => ?_) <;> try simp only [own_none_iff] at hn) | ((with_reducible refine GuardB.split (fun hc => ?_) (fun hc => ?_)) <;> (have hc2 := hc; try simp only [beq_eq_false_iff_ne, beq_iff_eq, ne_eq, bne_iff_ne, bne_eq_false_iff_eq, decide_eq_true_eq, decide_eq_false_iff_not, Bool.not_true, Bool.not_false, Int.not_le, Int.not_lt] at hc2)) | ((with_reducible refine CondK.split (fun hc => ?_) (fun hc => ?_)) <;> (have hc2 := hc; try simp only [beq_eq_false_iff_ne, beq_iff_eq, ne_eq, bne_iff_ne, bne_eq_false_iff_eq, decide_eq_true_eq, decide_eq_false_iff_not, Bool.not_true, Bool.not_false, Int.not_le, Int.not_lt] at hc2)) | ((with_reducible refine PickK.split (fun hc => ?_) (fun hc => ?_)) <;> (have hc2 := hc; try simp only [beq_eq_false_iff_ne, beq_iff_eq, ne_eq, bne_iff_ne, bne_eq_false_iff_eq, decide_eq_true_eq, decide_eq_false_iff_not, Bool.not_true, Bool.not_false, Int.not_le, Int.not_lt] at hc2)) | (with_reducible refine dop_buildSlice ?_) | (with_reducible refine dop_build ?_) | ((with_reducible refine GuardD.split (fun hc => ?_) (fun hc => ?_)) <;> (have hc2 := hc; try simp only [beq_eq_false_iff_ne, beq_iff_eq, ne_eq, bne_iff_ne, bne_eq_false_iff_eq, decide_eq_true_eq, decide_eq_false_iff_not, Bool.not_true, Bool.not_false, Int.not_le, Int.not_lt] at hc2)) | (with_reducible refine stp_build ?_) | (with_reducible refine stp_buildSlice ?_) | (with_reducible refine stp_store ?_) | (with_reducible refine stp_ns ?_) | (with_reducible refine NsB.intro (fun h' ho K' hk => by simp -implicitDefEqProofs (maxSteps := 1000000) only [go_sem, seval, *] <;> exact hk) ?_) | (with_reducible refine WrB.intro _ (by simp -implicitDefEqProofs (maxSteps := 1000000) only [go_sem, seval, *]) (fun h' ho K' hk => by simp -implicitDefEqProofs (maxSteps := 1000000) only [go_sem, seval, *]; exact hk) (fun h' ho K' hk => by simp -implicitDefEqProofs (maxSteps := 1000000) only [go_sem, seval, *] at hk; exact hk) (fun h' ho hk => by simp -implicitDefEqProofs (maxSteps := 1000000) only [go_sem, seval, *] at hk <;> with_unfolding_all exact False.elim hk) ?_) | (with_reducible refine WrB.intro _ (by simp -implicitDefEqProofs (maxSteps := 1000000) only [go_sem, seval, *]) (fun h' ho K' hk => by simp -implicitDefEqProofs (maxSteps := 1000000) only [go_sem, seval, *]; exact hk) ?_) | ((with_reducible refine DDraw.auto mo ?_ ?_); kernel_rfl)) <;> simp -implicitDefEqProofs (maxSteps := 1000000) only [go_sem, seval, *]) | (with_reducible refine bi_same ?_))
    refine AppD.own Try.underlying65 inf_turn (by decide) (by decide) (fa5.other (p5 g hn)) (ys := tnC (prT p w j)) (by unfold tnC prT; simp -implicitDefEqProofs (maxSteps := 1000000) only [go_sem, seval, *]) (tn_agg _) (by omega) fun u gA obA hA bA o => ?_
    have a3 := ne2 (fresh_ne (x := g3) hA q3 (by simp -implicitDefEqProofs (maxSteps := 1000000) only [go_sem, seval, *]; rfl))
    have a6 := ne2 (fresh_ne (x := g6) hA q6 (by simp -implicitDefEqProofs (maxSteps := 1000000) only [go_sem, seval, *]; rfl))
    have a7 := ne2 (fresh_ne (x := g7) hA q7 (by simp -implicitDefEqProofs (maxSteps := 1000000) only [go_sem, seval, *]; rfl))
    have hfr : h0.own gA = none := by
      rcases hA with e | ⟨e, _⟩
      · exact fa7.out gA e
      · simp only [own_none_iff] at e
        exact fa1.out.none e.2.2
    have hl : (prL p w (j + 1)).flatMap tnC = (prL p w j).flatMap tnC ++ tnC (prT p w j) := by rw [prL_succ, List.flatMap_append]; simp
    rw [← hl] at o
    obtain ⟨pu, cu, rfl⟩ := o.len
    have o' := o.other (g := g7) (ob := .cells #[.slice pu (j + 1) cu, .int .i64 l, .int .i64 r] 67) (by rw [bA]; rintro e; cases e; exact a7.1 rfl)
    simp -implicitDefEqProofs (maxSteps := 1000000) only [go_sem, seval, *]
    repeat' (first | (with_reducible refine at_seq (by with_unfolding_all exact rfl) ?_) | ((first | (with_reducible refine at_plain (by with_unfolding_all exact rfl) ?_) | (with_reducible refine at_draw (by with_unfolding_all exact rfl) ?_) | (with_reducible refine at_cond (by with_unfolding_all exact rfl) ?_) | (with_reducible refine at_exit (by with_unfolding_all exact rfl) ?_) | (with_reducible refine at_ret (by with_unfolding_all exact rfl) ?_) | (with_reducible refine at_skip (by with_unfolding_all exact rfl) ?_) | (with_reducible refine at_label (by with_unfolding_all exact rfl) ?_)) <;> try simp -implicitDefEqProofs (maxSteps := 1000000) only [go_sem, seval, *]) | (with_reducible refine at_block (by with_unfolding_all exact rfl) ?_) | (with_reducible refine at_loop (by with_unfolding_all exact rfl) ?_) | ((first | ((with_reducible refine NewK.intro fun g hg hn => ?_) <;> try simp only [own_none_iff] at hn) | ((with_reducible refine GuardB.split (fun hc => ?_) (fun hc => ?_)) <;> (have hc2 := hc; try simp only [beq_eq_false_iff_ne, beq_iff_eq, ne_eq, bne_iff_ne, bne_eq_false_iff_eq, decide_eq_true_eq, decide_eq_false_iff_not, Bool.not_true, Bool.not_false, Int.not_le, Int.not_lt] at hc2)) | ((with_reducible refine CondK.split (fun hc => ?_) (fun hc => ?_)) <;> (have hc2 := hc; try simp only [beq_eq_false_iff_ne, beq_iff_eq, ne_eq, bne_iff_ne, bne_eq_false_iff_eq, decide_eq_true_eq, decide_eq_false_iff_not, Bool.not_true, Bool.not_false, Int.not_le, Int.not_lt] at hc2)) | ((with_reducible refine PickK.split (fun hc => ?_) (fun hc => ?_)) <;> (have hc2 := hc; try simp only [beq_eq_false_iff_ne, beq_iff_eq, ne_eq, bne_iff_ne, bne_eq_false_iff_eq, decide_eq_true_eq, decide_eq_false_iff_not, Bool.not_true, Bool.not_false, Int.not_le, Int.not_lt] at hc2)) | (with_reducible refine dop_buildSlice ?_) | (with_reducible refine dop_build ?_) | ((with_reducible refine GuardD.split (fun hc => ?_) (fun hc => ?_)) <;> (have hc2 := hc; try simp only [beq_eq_false_iff_ne, beq_iff_eq, ne_eq, bne_iff_ne, bne_eq_false_iff_eq, decide_eq_true_eq, decide_eq_false_iff_not, Bool.not_true, Bool.not_false, Int.not_le, Int.not_lt] at hc2)) | (with_reducible refine stp_build ?_) | (with_reducible refine stp_buildSlice ?_) | (with_reducible refine stp_store ?_) | (with_reducible refine stp_ns ?_) | (with_reducible refine NsB.intro (fun h' ho K' hk => by simp -implicitDefEqProofs (maxSteps := 1000000) only [go_sem, seval, *] <;> exact hk) ?_) | (with_reducible refine WrB.intro _ (by simp -implicitDefEqProofs (maxSteps := 1000000) only [go_sem, seval, *]) (fun h' ho K' hk => by simp -implicitDefEqProofs (maxSteps := 1000000) only [go_sem, seval, *]; exact hk) (fun h' ho K' hk => by simp -implicitDefEqProofs (maxSteps := 1000000) only [go_sem, seval, *] at hk; exact hk) (fun h' ho hk => by simp -implicitDefEqProofs (maxSteps := 1000000) only [go_sem, seval, *] at hk <;> with_unfolding_all exact False.elim hk) ?_) | (with_reducible refine WrB.intro _ (by simp -implicitDefEqProofs (maxSteps := 1000000) only [go_sem, seval, *]) (fun h' ho K' hk => by simp -implicitDefEqProofs (maxSteps := 1000000) only [go_sem, seval, *]; exact hk) ?_) | ((with_reducible refine DDraw.auto mo ?_ ?_); kernel_rfl)) <;> simp -implicitDefEqProofs (maxSteps := 1000000) only [go_sem, seval, *]) | (with_reducible refine bi_same ?_))
    refine LoopK.intro (k' - 1) (by omega) ⟨j + 1, .slice pu (j + 1) cu, _, ⟨by omega⟩, ⟨?_⟩, (by simp -implicitDefEqProofs (maxSteps := 1000000) only [go_sem, seval, *]), (by simp -implicitDefEqProofs (maxSteps := 1000000) only [go_sem, seval, *]), (by simp -implicitDefEqProofs (maxSteps := 1000000) only [go_sem, seval, *]), o', ⟨?_⟩, ⟨?_⟩, fl_re (by kernel_rfl)⟩
    · intro y oy hy
      have y7 : y ≠ g7 := by rintro rfl; rw [(fa6.out y (by simp)).2] at hy; cases hy
      have yA : y ≠ gA := by rintro rfl; rw [hfr] at hy; cases hy
      have yg : y ≠ g := by rintro rfl; rw [fa1.out.none hn] at hy; cases hy
      rw [Hp.own_set, if_neg y7, Hp.own_set, if_neg yA, Hp.own_set, if_neg yg]
      exact fa1.out y oy hy
    · rintro x hx
      refine ⟨?_, (fa6.out x hx).2⟩
      rw [bA]
      rintro e
      cases e
      rcases hx with rfl | rfl | rfl
      · exact a3.1 rfl
      · exact a6.1 rfl
      · exact a7.1 rfl
    · intro x hx
      rw [bA] at hx
      cases hx
      exact hfr
  · have c1 : ((j : Int) < (n : Int)) = False := by simp only [eq_iff_iff, iff_false]; omega
    have hjn : n = j := by omega
    subst hjn
    obtain ⟨pu, cu, rfl⟩ := fa5.len
    clear hlt c0 hj
    repeat' (first | (with_reducible refine at_seq (by with_unfolding_all exact rfl) ?_) | ((first | (with_reducible refine at_plain (by with_unfolding_all exact rfl) ?_) | (with_reducible refine at_draw (by with_unfolding_all exact rfl) ?_) | (with_reducible refine at_cond (by with_unfolding_all exact rfl) ?_) | (with_reducible refine at_exit (by with_unfolding_all exact rfl) ?_) | (with_reducible refine at_ret (by with_unfolding_all exact rfl) ?_) | (with_reducible refine at_skip (by with_unfolding_all exact rfl) ?_) | (with_reducible refine at_label (by with_unfolding_all exact rfl) ?_)) <;> try simp -implicitDefEqProofs (maxSteps := 1000000) only [go_sem, seval, *]) | (with_reducible refine at_block (by with_unfolding_all exact rfl) ?_) | (with_reducible refine at_loop (by with_unfolding_all exact rfl) ?_) | ((first | ((with_reducible refine NewK.intro fun g hg hn => ?_) <;> try simp only [own_none_iff] at hn) | ((with_reducible refine GuardB.split (fun hc => ?_) (fun hc => ?_)) <;> (have hc2 := hc; try simp only [beq_eq_false_iff_ne, beq_iff_eq, ne_eq, bne_iff_ne, bne_eq_false_iff_eq, decide_eq_true_eq, decide_eq_false_iff_not, Bool.not_true, Bool.not_false, Int.not_le, Int.not_lt] at hc2)) | ((with_reducible refine CondK.split (fun hc => ?_) (fun hc => ?_)) <;> (have hc2 := hc; try simp only [beq_eq_false_iff_ne, beq_iff_eq, ne_eq, bne_iff_ne, bne_eq_false_iff_eq, decide_eq_true_eq, decide_eq_false_iff_not, Bool.not_true, Bool.not_false, Int.not_le, Int.not_lt] at hc2)) | ((with_reducible refine PickK.split (fun hc => ?_) (fun hc => ?_)) <;> (have hc2 := hc; try simp only [beq_eq_false_iff_ne, beq_iff_eq, ne_eq, bne_iff_ne, bne_eq_false_iff_eq, decide_eq_true_eq, decide_eq_false_iff_not, Bool.not_true, Bool.not_false, Int.not_le, Int.not_lt] at hc2)) | (with_reducible refine dop_buildSlice ?_) | (with_reducible refine dop_build ?_) | ((with_reducible refine GuardD.split (fun hc => ?_) (fun hc => ?_)) <;> (have hc2 := hc; try simp only [beq_eq_false_iff_ne, beq_iff_eq, ne_eq, bne_iff_ne, bne_eq_false_iff_eq, decide_eq_true_eq, decide_eq_false_iff_not, Bool.not_true, Bool.not_false, Int.not_le, Int.not_lt] at hc2)) | (with_reducible refine stp_build ?_) | (with_reducible refine stp_buildSlice ?_) | (with_reducible refine stp_store ?_) | (with_reducible refine stp_ns ?_) | (with_reducible refine NsB.intro (fun h' ho K' hk => by simp -implicitDefEqProofs (maxSteps := 1000000) only [go_sem, seval, *] <;> exact hk) ?_) | (with_reducible refine WrB.intro _ (by simp -implicitDefEqProofs (maxSteps := 1000000) only [go_sem, seval, *]) (fun h' ho K' hk => by simp -implicitDefEqProofs (maxSteps := 1000000) only [go_sem, seval, *]; exact hk) (fun h' ho K' hk => by simp -implicitDefEqProofs (maxSteps := 1000000) only [go_sem, seval, *] at hk; exact hk) (fun h' ho hk => by simp -implicitDefEqProofs (maxSteps := 1000000) only [go_sem, seval, *] at hk <;> with_unfolding_all exact False.elim hk) ?_) | (with_reducible refine WrB.intro _ (by simp -implicitDefEqProofs (maxSteps := 1000000) only [go_sem, seval, *]) (fun h' ho K' hk => by simp -implicitDefEqProofs (maxSteps := 1000000) only [go_sem, seval, *]; exact hk) ?_) | ((with_reducible refine DDraw.auto mo ?_ ?_); kernel_rfl)) <;> simp -implicitDefEqProofs (maxSteps := 1000000) only [go_sem, seval, *]) | (with_reducible refine bi_same ?_))
    refine ⟨h.set g6 (.cells #[.slice pu n cu, .int .i64 l, .int .i64 r] 67), fun y o e => by rw [Hp.own_set] at e; exact e, k1.out _ _ (fa1.out.set (fa6.out g6 (by simp)).2) fa7.out (fa5.other q6)⟩
/-- The same: one block is made. -/
theorem armPerfect_R (F : Fr) (h : Hp) (K : Value → Hp → Prop) (n : Nat) (p l r ua ub us ut w : Int) (lh : Bool) (hN : Hold (1 ≤ n ∧ n ≤ 60)) (hp : Hold (0 ≤ p ∧ p ≤ 200000)) (hw : Hold (-10000 ≤ w ∧ w ≤ 10000))
    (k1 : ∀ g (y : {y : Nat × List Value // n ≤ y.1}), F.w0.heap.size ≤ g → h.own g = none → K (.agg #[.slice (some ⟨g, 0, none⟩) n y.1.1, .int .i64 l, .int .i64 r]) (h.set g (.cells ((prL p w n).flatMap tnC ++ y.1.2).toArray 70 (0, 0)))) :
    DCall Try.prog F 24 #[.agg #[.int .i64 p, .int .i64 l, .int .i64 r, .int .i64 ua, .int .i64 ub, .int .i64 us, .bool lh, .int .i64 ut], .int .i64 n, .int .i64 w] h K := by
  refine DCall.weak ?_
  refine armPerfect_D F h _ n p l r ua ub us ut w lh ⟨hN.out.2⟩ hp hw fun v' h' hk hb ho => ?_
  rcases ho.2 with ⟨_, h0⟩ | ⟨g, cap, tl, rfl, h1, h2, h3, _⟩
  · exact absurd h0 (by have := hN.out; omega)
  · refine ⟨_, fun b o e => ?_, k1 g ⟨(cap, tl), h3⟩ h1 (hb g rfl)⟩
    rw [Hp.own_set] at e
    split at e
    · rename_i hbg; subst hbg; cases e; exact h2
    · exact hk b o e
/-- Its turns follow one another. -/
theorem prL_okT {p w : Int} (hp : 0 ≤ p ∧ p ≤ 200000) (hw : -(p / 4) ≤ w ∧ 2 * w + p / 4 + p / 4 ≤ p ∧ w ≤ 10000) : ∀ (m j : Nat) (a : Int), j + m ≤ 40 → a ≤ (j : Int) * p - p / 4 - w → okT a ((List.range' j m).map (prT p w))
  | 0, _, _, _, _ => trivial
  | m + 1, j, a, hj, ha => by
    rw [List.range'_succ, List.map_cons]
    have mb := mul_bd (a := (j : Int)) (b := p) (A := 40) (B := 200000) (by omega) (by omega) (by omega) (by omega)
    refine ⟨⟨ha, ?_, ?_⟩, ?_⟩
    · unfold prT; dsimp only; omega
    · unfold prT; dsimp only; omega
    · refine prL_okT hp hw m (j + 1) _ (by omega) ?_
      unfold prT; dsimp only
      have e : ((j + 1 : Nat) : Int) * p = (j : Int) * p + p := by push_cast; rw [Int.add_mul]; omega
      rw [e]
      omega
theorem prL_ThOk {p w l r : Int} {n : Nat} (hp : 0 ≤ p ∧ p ≤ 200000) (hw : -(p / 4) ≤ w ∧ 2 * w + p / 4 + p / 4 ≤ p ∧ w ≤ 10000) (hn : 1 ≤ n ∧ n ≤ 40) (hl : 0 ≤ l ∧ l ≤ 3000) (hr : 0 ≤ r ∧ r ≤ 3000) : ThOk n l r (prL p w n) :=
  ⟨by omega, hl, hr, prL_len, by
    unfold prL
    rw [List.range_eq_range']
    exact prL_okT hp hw n 0 _ (by omega) (by push_cast; omega)⟩

end Go.Proofs.Ytdhdfdaclbfkiaa
