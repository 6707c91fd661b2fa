/-
  For every input the law BoltLearns returns true. Conditions: none.
-/
import Derived.Test.YtdhhaglaikdpbaaRows
import Derived.Test.YtdhhaglaikdpbaaB71
import Derived.Test.YtdhhaglaikdpbaaS10
namespace Go.Proofs.Ytdhhaglaikdpbaa.boltLearns
open Go.ChangeShapes Go.WideShapes Go.ChangeAt Go.RowKit Go.SL
set_option linter.unusedVariables false

theorem own : ownKnob Try.prog.godebug = none := by kernel_rfl
theorem flat23 : Flat Try.prog 23 ([.i64] ++ ([.i64] ++ ([]))) := Flat.struct Try.underlying23 (by kernel_rfl) (.cons rfl (by kernel_rfl) (Flat.int Try.underlying3) (.cons rfl (by kernel_rfl) (Flat.int Try.underlying3) (.nil _)))
theorem flat25 : Flat Try.prog 25 ([.i64] ++ ([.i64] ++ ([.i64] ++ (([.i64] ++ ([.i64] ++ ([]))) ++ (([.i64] ++ ([.i64] ++ ([]))) ++ (([.i64] ++ ([.i64] ++ ([]))) ++ (([.i64] ++ ([.i64] ++ ([]))) ++ (([.i64] ++ ([.i64] ++ ([]))) ++ ([]))))))))) := Flat.struct Try.underlying25 (by kernel_rfl) (.cons rfl (by kernel_rfl) (Flat.int Try.underlying3) (.cons rfl (by kernel_rfl) (Flat.int Try.underlying3) (.cons rfl (by kernel_rfl) (Flat.int Try.underlying3) (.cons rfl (by kernel_rfl) flat23 (.cons rfl (by kernel_rfl) flat23 (.cons rfl (by kernel_rfl) flat23 (.cons rfl (by kernel_rfl) flat23 (.cons rfl (by kernel_rfl) flat23 (.nil _)))))))))
theorem listU {α : Type} {n : Nat} (l : List α) (h : l.length = n + 1) : ∃ a t, l = a :: t ∧ t.length = n := by cases l with | nil => simp at h | cons a t => exact ⟨a, t, rfl, by simpa using h⟩
theorem list13 {α : Type} (t0 : List α) (h0 : t0.length = 13) : ∃ y0 y1 y2 y3 y4 y5 y6 y7 y8 y9 y10 y11 y12, t0 = [y0, y1, y2, y3, y4, y5, y6, y7, y8, y9, y10, y11, y12] := by
  obtain ⟨y0, t1, e0, h1⟩ := listU t0 h0
  obtain ⟨y1, t2, e1, h2⟩ := listU t1 h1
  obtain ⟨y2, t3, e2, h3⟩ := listU t2 h2
  obtain ⟨y3, t4, e3, h4⟩ := listU t3 h3
  obtain ⟨y4, t5, e4, h5⟩ := listU t4 h4
  obtain ⟨y5, t6, e5, h6⟩ := listU t5 h5
  obtain ⟨y6, t7, e6, h7⟩ := listU t6 h6
  obtain ⟨y7, t8, e7, h8⟩ := listU t7 h7
  obtain ⟨y8, t9, e8, h9⟩ := listU t8 h8
  obtain ⟨y9, t10, e9, h10⟩ := listU t9 h9
  obtain ⟨y10, t11, e10, h11⟩ := listU t10 h10
  obtain ⟨y11, t12, e11, h12⟩ := listU t11 h11
  obtain ⟨y12, t13, e12, h13⟩ := listU t12 h12
  have e := List.eq_nil_of_length_eq_zero h13
  exact ⟨y0, y1, y2, y3, y4, y5, y6, y7, y8, y9, y10, y11, y12, by rw [e0, e1, e2, e3, e4, e5, e6, e7, e8, e9, e10, e11, e12, e]⟩

set_option maxRecDepth 100000 in
theorem lifted (os : Os) (started : os.Started) (H : Type) (enc : TypeId × Value → H) :
    ReturnsInHanded {} Try.checked os 6 .any (Rows.boltLearnsSpec.pre6 enc Try.prog Try.f6 Rows.boltLearnsRow.domain false) (Rows.boltLearnsSpec.post enc Try.prog Try.f6 false true false false) := by
  refine returnsInHanded_of_change (C := Try.checked) own started (by kernel_rfl) Try.func6
    (ChangeSpec.witness6 (enc := enc) (C := Try.checked) false ⟨#[], #[.agg #[.int .i64 0, .int .i64 0, .int .i64 0, .int .i64 0, .int .i64 0, .int .i64 0, .int .i64 0, .int .i64 0, .int .i64 0, .int .i64 0, .int .i64 0, .int .i64 0, .int .i64 0], .agg #[.int .i64 0, .int .i64 0], .agg #[.int .i64 0, .int .i64 0]], []⟩ 8 (by kernel_rfl) (by kernel_rfl) (by kernel_rfl) (by kernel_rfl)) ?_
  intro W base args ds gs before hval0 hW hcnd _
  have hval : ∀ (j : Nat) t v, Try.f6.params[j]? = some t → args[j]? = some v → Value.okWide Try.prog W .any base t v := hval0
  have hW' := hW
  obtain ⟨p, q, hA0, hV, rfl, hfz, hnd⟩ := hW
  have hA : DataW.TrodAll enc Try.prog W 0 (fun _ => true) true Try.f6.params.toList args.toList ds p := hA0
  rw [Try.params6] at hA hval
  obtain ⟨v0, vs0, d0, ds0, p0, q0, hargs, rfl, rfl, h0, r0⟩ := trodAll_cons hA
  obtain ⟨v1, vs1, d1, ds1, p1, q1, rfl, rfl, rfl, h1, r1⟩ := trodAll_cons r0
  obtain ⟨v2, vs2, d2, ds2, p2, q2, rfl, rfl, rfl, h2, r2⟩ := trodAll_cons r1
  obtain ⟨rfl, rfl, rfl⟩ := trodAll_nil r2
  obtain rfl : args = #[v0, v1, v2] := by cases args; simp_all
  obtain ⟨rfl, rfl⟩ := trodVars_none hV
  obtain ⟨l0, n0, rfl, rfl, w0, s0⟩ := open_flat Try.underlying25 flat25 (hval 0 25 v0 rfl rfl) h0
  obtain ⟨x0_0, x0_1, x0_2, x0_3, x0_4, x0_5, x0_6, x0_7, x0_8, x0_9, x0_10, x0_11, x0_12, rfl⟩ := list13 l0 n0
  obtain ⟨u0_0, u0_1, u0_2, u0_3, u0_4, u0_5, u0_6, u0_7, u0_8, u0_9, u0_10, u0_11, u0_12, _⟩ := w0
  obtain ⟨l1, n1, rfl, rfl, w1, s1⟩ := open_flat Try.underlying23 flat23 (hval 1 23 v1 rfl rfl) h1
  obtain ⟨x1_0, x1_1, rfl⟩ := list2 l1 n1
  obtain ⟨u1_0, u1_1, _⟩ := w1
  obtain ⟨l2, n2, rfl, rfl, w2, s2⟩ := open_flat Try.underlying23 flat23 (hval 2 23 v2 rfl rfl) h2
  obtain ⟨x2_0, x2_1, rfl⟩ := list2 l2 n2
  obtain ⟨u2_0, u2_1, _⟩ := w2
  clear hA0 hval0
  refine ((boltLearns_ok (fun _ => none) x0_0 x0_1 x0_2 x0_3 x0_4 x0_5 x0_6 x0_7 x0_8 x0_9 x0_10 x0_11 x0_12 x1_0 x1_1 x2_0 x2_1                 ).out W (fun _ _ e => by cases e)).mono fun e W' ⟨he, bel⟩ => ?_
  subst he
  exact ⟨_, rfl, _, _, _, [], _, [], hW', trodAll_mk1 (shut_bool Try.underlying4 _), (trodAll_cons_mk (s0 W' _ _ _) (trodAll_cons_mk (s1 W' _ _ _) (trodAll_cons_mk (s2 W' _ _ _) trodAll_mk0))), rfl, bel.frame _, fun h => by cases h⟩

theorem named : Try.pinned.checked.prog.funcNamed Rows.boltLearnsRow.func = some 6 := by kernel_rfl
set_option maxHeartbeats 4000000 in
theorem closed : joinedFacts Try.pinned.checked.prog 6 Try.f6 Rows.boltLearnsSpec Rows.boltLearnsRow = true := by
  unfold joinedFacts
  simp only [Bool.and_eq_true]
  repeat' (with_reducible apply And.intro)
  all_goals (as_aux_lemma => kernel_rfl)
theorem inst : Try.f6.isInstance Try.pinned.checked.prog Rows.boltLearnsRow.origin Rows.boltLearnsRow.targs := (of_decide_eq_true (by kernel_rfl))
theorem wrapped : Try.f6.isWrapper Try.pinned.checked.prog Rows.boltLearnsRow.wrapper Rows.boltLearnsRow.mainSum := (by unfold Func.isWrapper; first | (rw [if_pos (by decide +kernel)]; kernel_rfl) | (rw [if_neg (by decide +kernel)]; exact ⟨rfl, rfl⟩))
theorem over : Rows.boltLearnsRow.holds Try.pinned (OpenSpec.ofChange Rows.boltLearnsSpec) :=
  OpenClaim.holds_of_wide 6 Try.f6 rfl rfl rfl rfl rfl rfl rfl ⟨rfl, rfl, rfl, rfl, rfl⟩ rfl rfl rfl rfl rfl named Try.func6 closed inst wrapped
    (fun os started H enc _ => lifted os started H enc)

theorem proved : Rows.BoltLearnsSaid := over
#print axioms proved
end Go.Proofs.Ytdhhaglaikdpbaa.boltLearns
