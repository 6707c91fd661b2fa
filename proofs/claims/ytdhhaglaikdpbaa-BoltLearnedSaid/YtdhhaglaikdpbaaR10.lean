/-
  For every input the law BoltLearned returns true. Conditions: none.
-/
import Derived.Test.YtdhhaglaikdpbaaRows
import Derived.Test.YtdhhaglaikdpbaaB47
import Derived.Test.YtdhhaglaikdpbaaS10
namespace Go.Proofs.Ytdhhaglaikdpbaa.boltLearned
open Go.ChangeShapes Go.WideShapes Go.ChangeAt Go.RowKit Go.SL
set_option linter.unusedVariables false

theorem own : ownKnob Try.prog.godebug = none := by kernel_rfl
theorem flat71 : Flat Try.prog 71 (List.replicate 3 .u8 ++ (List.replicate 4 .u8 ++ (List.replicate 6 .u8 ++ ([.u8] ++ (List.replicate 4 .u16 ++ (List.replicate 8 .u8 ++ ([]))))))) := Flat.struct Try.underlying71 (by kernel_rfl) (.cons rfl (by kernel_rfl) (Flat.arr Try.underlying64 Try.underlying5 (by kernel_rfl) (by kernel_rfl)) (.cons rfl (by kernel_rfl) (Flat.arr Try.underlying65 Try.underlying5 (by kernel_rfl) (by kernel_rfl)) (.cons rfl (by kernel_rfl) (Flat.arr Try.underlying66 Try.underlying5 (by kernel_rfl) (by kernel_rfl)) (.cons rfl (by kernel_rfl) (Flat.int Try.underlying5) (.cons rfl (by kernel_rfl) (Flat.arr Try.underlying68 Try.underlying67 (by kernel_rfl) (by kernel_rfl)) (.cons rfl (by kernel_rfl) (Flat.arr Try.underlying69 Try.underlying5 (by kernel_rfl) (by kernel_rfl)) (.nil _)))))))
theorem listU {α : Type} {n : Nat} (l : List α) (h : l.length = n + 1) : ∃ a t, l = a :: t ∧ t.length = n := by cases l with | nil => simp at h | cons a t => exact ⟨a, t, rfl, by simpa using h⟩
theorem list26 {α : Type} (t0 : List α) (h0 : t0.length = 26) : ∃ y0 y1 y2 y3 y4 y5 y6 y7 y8 y9 y10 y11 y12 y13 y14 y15 y16 y17 y18 y19 y20 y21 y22 y23 y24 y25, t0 = [y0, y1, y2, y3, y4, y5, y6, y7, y8, y9, y10, y11, y12, y13, y14, y15, y16, y17, y18, y19, y20, y21, y22, y23, y24, y25] := by
  obtain ⟨y0, t1, e0, h1⟩ := listU t0 h0
  obtain ⟨y1, t2, e1, h2⟩ := listU t1 h1
  obtain ⟨y2, t3, e2, h3⟩ := listU t2 h2
  obtain ⟨y3, t4, e3, h4⟩ := listU t3 h3
  obtain ⟨y4, t5, e4, h5⟩ := listU t4 h4
  obtain ⟨y5, t6, e5, h6⟩ := listU t5 h5
  obtain ⟨y6, t7, e6, h7⟩ := listU t6 h6
  obtain ⟨y7, t8, e7, h8⟩ := listU t7 h7
  obtain ⟨y8, t9, e8, h9⟩ := listU t8 h8
  obtain ⟨y9, t10, e9, h10⟩ := listU t9 h9
  obtain ⟨y10, t11, e10, h11⟩ := listU t10 h10
  obtain ⟨y11, t12, e11, h12⟩ := listU t11 h11
  obtain ⟨y12, t13, e12, h13⟩ := listU t12 h12
  obtain ⟨y13, t14, e13, h14⟩ := listU t13 h13
  obtain ⟨y14, t15, e14, h15⟩ := listU t14 h14
  obtain ⟨y15, t16, e15, h16⟩ := listU t15 h15
  obtain ⟨y16, t17, e16, h17⟩ := listU t16 h16
  obtain ⟨y17, t18, e17, h18⟩ := listU t17 h17
  obtain ⟨y18, t19, e18, h19⟩ := listU t18 h18
  obtain ⟨y19, t20, e19, h20⟩ := listU t19 h19
  obtain ⟨y20, t21, e20, h21⟩ := listU t20 h20
  obtain ⟨y21, t22, e21, h22⟩ := listU t21 h21
  obtain ⟨y22, t23, e22, h23⟩ := listU t22 h22
  obtain ⟨y23, t24, e23, h24⟩ := listU t23 h23
  obtain ⟨y24, t25, e24, h25⟩ := listU t24 h24
  obtain ⟨y25, t26, e25, h26⟩ := listU t25 h25
  have e := List.eq_nil_of_length_eq_zero h26
  exact ⟨y0, y1, y2, y3, y4, y5, y6, y7, y8, y9, y10, y11, y12, y13, y14, y15, y16, y17, y18, y19, y20, y21, y22, y23, y24, y25, by rw [e0, e1, e2, e3, e4, e5, e6, e7, e8, e9, e10, e11, e12, e13, e14, e15, e16, e17, e18, e19, e20, e21, e22, e23, e24, e25, e]⟩

set_option maxRecDepth 100000 in
theorem lifted (os : Os) (started : os.Started) (H : Type) (enc : TypeId × Value → H) :
    ReturnsInHanded {} Try.checked os 10 .any (Rows.boltLearnedSpec.pre6 enc Try.prog Try.f10 Rows.boltLearnedRow.domain false) (Rows.boltLearnedSpec.post enc Try.prog Try.f10 false true false false) := by
  refine returnsInHanded_of_change (C := Try.checked) own started (by kernel_rfl) Try.func10
    (ChangeSpec.witness6 (enc := enc) (C := Try.checked) false ⟨#[], #[.agg #[.int .u8 0, .int .u8 0, .int .u8 0, .int .u8 0, .int .u8 0, .int .u8 0, .int .u8 0, .int .u8 0, .int .u8 0, .int .u8 0, .int .u8 0, .int .u8 0, .int .u8 0, .int .u8 0, .int .u16 0, .int .u16 0, .int .u16 0, .int .u16 0, .int .u8 0, .int .u8 0, .int .u8 0, .int .u8 0, .int .u8 0, .int .u8 0, .int .u8 0, .int .u8 0], .agg #[.int .u8 0, .int .u8 0]], []⟩ 8 (by kernel_rfl) (by kernel_rfl) (by kernel_rfl) (by kernel_rfl)) ?_
  intro W base args ds gs before hval0 hW hcnd _
  have hval : ∀ (j : Nat) t v, Try.f10.params[j]? = some t → args[j]? = some v → Value.okWide Try.prog W .any base t v := hval0
  have hW' := hW
  obtain ⟨p, q, hA0, hV, rfl, hfz, hnd⟩ := hW
  have hA : DataW.TrodAll enc Try.prog W 0 (fun _ => true) true Try.f10.params.toList args.toList ds p := hA0
  rw [Try.params10] at hA hval
  obtain ⟨v0, vs0, d0, ds0, p0, q0, hargs, rfl, rfl, h0, r0⟩ := trodAll_cons hA
  obtain ⟨v1, vs1, d1, ds1, p1, q1, rfl, rfl, rfl, h1, r1⟩ := trodAll_cons r0
  obtain ⟨rfl, rfl, rfl⟩ := trodAll_nil r1
  obtain rfl : args = #[v0, v1] := by cases args; simp_all
  obtain ⟨rfl, rfl⟩ := trodVars_none hV
  obtain ⟨l0, n0, rfl, rfl, w0, s0⟩ := open_flat Try.underlying71 flat71 (hval 0 71 v0 rfl rfl) h0
  obtain ⟨x0_0, x0_1, x0_2, x0_3, x0_4, x0_5, x0_6, x0_7, x0_8, x0_9, x0_10, x0_11, x0_12, x0_13, x0_14, x0_15, x0_16, x0_17, x0_18, x0_19, x0_20, x0_21, x0_22, x0_23, x0_24, x0_25, rfl⟩ := list26 l0 n0
  obtain ⟨u0_0, u0_1, u0_2, u0_3, u0_4, u0_5, u0_6, u0_7, u0_8, u0_9, u0_10, u0_11, u0_12, u0_13, u0_14, u0_15, u0_16, u0_17, u0_18, u0_19, u0_20, u0_21, u0_22, u0_23, u0_24, u0_25, _⟩ := w0
  obtain ⟨l1, n1, rfl, rfl, rfl, w1, s1⟩ := open_arr Try.underlying72 Try.underlying5 (by kernel_rfl) (by kernel_rfl) (hval 1 72 v1 rfl rfl) h1
  obtain ⟨x1_0, x1_1, rfl⟩ := list2 l1 n1
  clear hA0 hval0
  refine ((boltLearned_ok (fun _ => none) x0_0 x0_1 x0_2 x0_3 x0_4 x0_5 x0_6 x0_7 x0_8 x0_9 x0_10 x0_11 x0_12 x0_13 x0_14 x0_15 x0_16 x0_17 x0_18 x0_19 x0_20 x0_21 x0_22 x0_23 x0_24 x0_25 x1_0 x1_1 (wf_u8 u0_0) (wf_u8 u0_1) (wf_u8 u0_2) (wf_u8 u0_3) (wf_u8 u0_4) (wf_u8 u0_5) (wf_u8 u0_6) (wf_u8 u0_7) (wf_u8 u0_8) (wf_u8 u0_9) (wf_u8 u0_10) (wf_u8 u0_11) (wf_u8 u0_12) (wf_u8 u0_13) (wf_u16 u0_14) (wf_u16 u0_15) (wf_u16 u0_16) (wf_u16 u0_17) (wf_u8 u0_18) (wf_u8 u0_19) (wf_u8 u0_20) (wf_u8 u0_21) (wf_u8 u0_22) (wf_u8 u0_23) (wf_u8 u0_24) (wf_u8 u0_25) (wf_u8 (w1 x1_0 (by simp))) (wf_u8 (w1 x1_1 (by simp)))) W (fun _ _ e => by cases e)).mono fun e W' ⟨he, bel⟩ => ?_
  subst he
  exact ⟨_, rfl, _, _, _, [], _, [], hW', trodAll_mk1 (shut_bool Try.underlying4 _), (trodAll_cons_mk (s0 W' _ _ _) (trodAll_cons_mk (s1 W' _ _ _) trodAll_mk0)), rfl, bel.frame _, fun h => by cases h⟩

theorem named : Try.pinned.checked.prog.funcNamed Rows.boltLearnedRow.func = some 10 := by kernel_rfl
set_option maxHeartbeats 4000000 in
theorem closed : joinedFacts Try.pinned.checked.prog 10 Try.f10 Rows.boltLearnedSpec Rows.boltLearnedRow = true := by
  unfold joinedFacts
  simp only [Bool.and_eq_true]
  repeat' (with_reducible apply And.intro)
  all_goals (as_aux_lemma => kernel_rfl)
theorem inst : Try.f10.isInstance Try.pinned.checked.prog Rows.boltLearnedRow.origin Rows.boltLearnedRow.targs := (of_decide_eq_true (by kernel_rfl))
theorem wrapped : Try.f10.isWrapper Try.pinned.checked.prog Rows.boltLearnedRow.wrapper Rows.boltLearnedRow.mainSum := (by unfold Func.isWrapper; first | (rw [if_pos (by decide +kernel)]; kernel_rfl) | (rw [if_neg (by decide +kernel)]; exact ⟨rfl, rfl⟩))
theorem over : Rows.boltLearnedRow.holds Try.pinned (OpenSpec.ofChange Rows.boltLearnedSpec) :=
  OpenClaim.holds_of_wide 10 Try.f10 rfl rfl rfl rfl rfl rfl rfl ⟨rfl, rfl, rfl, rfl, rfl⟩ rfl rfl rfl rfl rfl named Try.func10 closed inst wrapped
    (fun os started H enc _ => lifted os started H enc)

theorem proved : Rows.BoltLearnedSaid := over
#print axioms proved
end Go.Proofs.Ytdhhaglaikdpbaa.boltLearned
