/-
  For every input the law DieTurned returns true. Conditions: none.
-/
import Derived.Test.YtlbpfmnobapidaaRows
import Derived.Test.YtlbpfmnobapidaaD32
import Derived.Test.YtlbpfmnobapidaaS15
namespace Go.Proofs.Ytlbpfmnobapidaa.dieTurned
open Go.ChangeShapes Go.WideShapes Go.ChangeAt Go.RowKit Go.SL
set_option linter.unusedVariables false

theorem own : ownKnob Try.prog.godebug = none := by kernel_rfl
theorem laid : laidOutB Try.prog = true := by kernel_rfl
theorem opnA2 : Opn Try.prog 74 (fun _ cs => ∃ a, cs = u8C a ∧ Byte a.1 ∧ Byte a.2) := by
  refine (Opn.flat (Flat.arr Try.underlying74 Try.underlying5 (by kernel_rfl) (by kernel_rfl))).imp fun ro cs h => ?_
  obtain ⟨xs, hl, rfl, hw⟩ := h
  obtain ⟨x, y, rfl⟩ := list2 xs hl
  exact ⟨(x, y), rfl, wf_u8 hw.1, wf_u8 hw.2.1⟩
theorem opnA4 : Opn Try.prog 116 (fun _ cs => ∃ a, cs = u8D a ∧ Byte4 a) := by
  refine (Opn.flat (Flat.arr Try.underlying116 Try.underlying5 (by kernel_rfl) (by kernel_rfl))).imp fun ro cs h => ?_
  obtain ⟨xs, hl, rfl, hw⟩ := h
  obtain ⟨x, y, z, w, rfl⟩ := list4 xs hl
  exact ⟨⟨x, y, z, w⟩, rfl, wf_u8 hw.1, wf_u8 hw.2.1, wf_u8 hw.2.2.1, wf_u8 hw.2.2.2.1⟩
theorem opnU8 : Opn Try.prog 5 (fun _ cs => ∃ a, cs = [Value.int .u8 a] ∧ Byte a) := by
  refine (Opn.flat (Flat.int Try.underlying5)).imp fun ro cs h => ?_
  obtain ⟨xs, hl, rfl, hw⟩ := h
  obtain ⟨x, rfl⟩ : ∃ x, xs = [x] := List.length_eq_one_iff.1 hl
  exact ⟨x, rfl, wf_u8 hw.1⟩
theorem opnW : Opn Try.prog 75 (fun ro cs => ∃ (p : Option Addr) (n c : Nat) (L : List (Int × Int)), cs = [.slice p n c] ∧ L.length = n ∧ n ≤ 9223372036854775807 ∧ RdS ro p n 2 (L.flatMap u8C) ∧ ∀ a ∈ L, Byte a.1 ∧ Byte a.2) := Opn.slice (P := Try.prog) (t := 75) (e := 74) (s := 2) (f := u8C) (Q := fun a => Byte a.1 ∧ Byte a.2) Try.underlying75 (by kernel_rfl) (by decide) u8C_len opnA2
theorem opnO : Opn Try.prog 76 (fun ro cs => ∃ (p : Option Addr) (n c : Nat) (L : List Q4), cs = [.slice p n c] ∧ L.length = n ∧ n ≤ 9223372036854775807 ∧ RdS ro p n 4 (L.flatMap u8D) ∧ ∀ a ∈ L, Byte4 a) := Opn.slice (P := Try.prog) (t := 76) (e := 116) (s := 4) (f := u8D) (Q := Byte4) Try.underlying76 (by kernel_rfl) (by decide) u8D_len opnA4
theorem opnT : Opn Try.prog 77 (fun ro cs => ∃ (p : Option Addr) (n c : Nat) (L : List Int), cs = [.slice p n c] ∧ L.length = n ∧ n ≤ 9223372036854775807 ∧ RdS ro p n 1 (L.flatMap (fun x : Int => [Value.int .u8 x])) ∧ ∀ a ∈ L, Byte a) := Opn.slice (P := Try.prog) (t := 77) (e := 5) (s := 1) (f := fun x : Int => [Value.int .u8 x]) (Q := Byte) Try.underlying77 (by kernel_rfl) (by decide) (fun _ => rfl) opnU8

set_option maxRecDepth 100000 in
theorem lifted (os : Os) (started : os.Started) (H : Type) (enc : TypeId × Value → H) :
    ReturnsInHanded {} Try.checked os 12 .any (Rows.dieTurnedSpec.pre6 enc Try.prog Try.f12 Rows.dieTurnedRow.domain false) (Rows.dieTurnedSpec.post enc Try.prog Try.f12 false true false false) := by
  refine returnsInHanded_of_change (C := Try.checked) own started (by kernel_rfl) Try.func12
    (ChangeSpec.witness6 (enc := enc) (C := Try.checked) false ⟨#[], #[.agg #[.bool false, .int .u8 0, .int .u8 0, .slice none 0 0, .slice none 0 0, .slice none 0 0], .agg #[.int .u8 0, .int .u8 0]], []⟩ 8 (by kernel_rfl) (by kernel_rfl) (by kernel_rfl) (by kernel_rfl)) ?_
  intro W base args ds gs before hval0 hW hcnd _
  have hval : ∀ (j : Nat) t v, Try.f12.params[j]? = some t → args[j]? = some v → Value.okWide Try.prog W .any base t v := hval0
  have hW' := hW
  obtain ⟨p, q, hA0, hV, rfl, hfz, hnd⟩ := hW
  have hA : DataW.TrodAll enc Try.prog W 0 (fun _ => true) true Try.f12.params.toList args.toList ds p := hA0
  have hA1 := hA
  rw [Try.params12] at hA hA1 hval
  obtain ⟨v0, vs0, d0, ds0, p0, q0, hargs, rfl, rfl, h0, r0⟩ := trodAll_cons hA
  obtain ⟨v1, vs1, d1, ds1, p1, q1, rfl, rfl, rfl, h1, r1⟩ := trodAll_cons r0
  obtain ⟨rfl, rfl, rfl⟩ := trodAll_nil r1
  obtain rfl : args = #[v0, v1] := by cases args; simp_all
  obtain ⟨rfl, rfl⟩ := trodVars_none hV
  obtain ⟨cs0, rfl⟩ := agg_of Try.underlying79 (hval 0 79 v0 rfl rfl)
  obtain ⟨k1, m1, e1, ⟨b, rfl⟩, k2, m2, rfl, ⟨a, rfl, ha⟩, k3, m3, rfl, ⟨pW, nW, cW, wl, rfl, lW, bW, rW, qW⟩, k4, m4, rfl, ⟨pO, nO, cO, ol, rfl, lO, bO, rO, qO⟩, k5, m5, rfl, ⟨pT, nT, cT, tl, rfl, lT, bT, rT, qT⟩, rfl⟩ := Opn.arg (Opn.struct (P := Try.prog) (t := 79) (z := 6) Try.underlying79 (by kernel_rfl) (.cons (s := 1) rfl (by kernel_rfl) (Opn.bool Try.underlying4) (.cons (s := 2) rfl (by kernel_rfl) opnA2 (.cons (s := 1) rfl (by kernel_rfl) opnW (.cons (s := 1) rfl (by kernel_rfl) opnO (.cons (s := 1) rfl (by kernel_rfl) opnT .nil)))))) h0
  obtain ⟨a0, a1⟩ := a
  obtain rfl : cs0 = #[.bool b, .int .u8 a0, .int .u8 a1, .slice pW nW cW, .slice pO nO cO, .slice pT nT cT] := Array.ext' e1
  obtain ⟨l1, n1, rfl, rfl, rfl, w1, s1⟩ := open_arr Try.underlying74 Try.underlying5 (by kernel_rfl) (by kernel_rfl) (hval 1 74 v1 rfl rfl) h1
  obtain ⟨x1_0, x1_1, rfl⟩ := list2 l1 n1
  clear hA0 hval0
  refine ((dieTurned_ok W.cell? b a0 a1 pW nW cW pO nO cO pT nT cT x1_0 x1_1 wl ol ⟨rW, qW, ha, bW, rO, qO, bO⟩ ⟨(wf_u8 (w1 x1_0 (by simp))), (wf_u8 (w1 x1_1 (by simp)))⟩).out W (fun _ _ e => e)).mono fun e W' ⟨he, bel⟩ => ?_
  subst he
  exact ⟨_, rfl, _, _, _, [], _, [], hW', trodAll_mk1 (shut_bool Try.underlying4 _), trodAll_below laid bel (by intro t ht; replace ht : t ∈ [79, 74] := ht; simp only [List.mem_cons, List.not_mem_nil, or_false] at ht; rcases ht with rfl | rfl <;> exact ⟨by kernel_rfl, by decide +kernel⟩) hA1, rfl, bel.frame _, fun h => by cases h⟩

theorem named : Try.pinned.checked.prog.funcNamed Rows.dieTurnedRow.func = some 12 := by kernel_rfl
set_option maxHeartbeats 4000000 in
theorem closed : joinedFacts Try.pinned.checked.prog 12 Try.f12 Rows.dieTurnedSpec Rows.dieTurnedRow = true := by
  unfold joinedFacts
  simp only [Bool.and_eq_true]
  repeat' (with_reducible apply And.intro)
  all_goals (as_aux_lemma => kernel_rfl)
theorem inst : Try.f12.isInstance Try.pinned.checked.prog Rows.dieTurnedRow.origin Rows.dieTurnedRow.targs := (of_decide_eq_true (by kernel_rfl))
theorem wrapped : Try.f12.isWrapper Try.pinned.checked.prog Rows.dieTurnedRow.wrapper Rows.dieTurnedRow.mainSum := (by unfold Func.isWrapper; first | (rw [if_pos (by decide +kernel)]; kernel_rfl) | (rw [if_neg (by decide +kernel)]; exact ⟨rfl, rfl⟩))
theorem over : Rows.dieTurnedRow.holds Try.pinned (OpenSpec.ofChange Rows.dieTurnedSpec) :=
  OpenClaim.holds_of_wide 12 Try.f12 rfl rfl rfl rfl rfl rfl rfl ⟨rfl, rfl, rfl, rfl, rfl⟩ rfl rfl rfl rfl rfl named Try.func12 closed inst wrapped
    (fun os started H enc _ => lifted os started H enc)

theorem proved : Rows.DieTurnedSaid := over
#print axioms proved
end Go.Proofs.Ytlbpfmnobapidaa.dieTurned
