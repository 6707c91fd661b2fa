/-
  Walks. Conditions: none.
-/
import Derived.Test.YtdhdfdaclbfkiaaW21
set_option linter.unusedVariables false
set_option linter.unusedSimpArgs false
namespace Go.Proofs.Ytdhdfdaclbfkiaa
open Go.RowKit Go.SL
set_option maxHeartbeats 1000000
set_option maxRecDepth 1000000
attribute [local go_sem] i64w
attribute [local go_sem] dwp_eqGuardE dwp_eqGuardN rval_eqGuardE rval_eqGuardN
theorem DLoop.cutE {P : Program} {F : Fr} {c : Code} {Q : Exit → Act → Hp → Prop} {a : Act} {h : Hp} (R : Act → Hp → Act → Hp → Prop) (id : Nat) (h1 : DLoop P F c (fun e a' h' => e = .exit id ∧ R a h a' h') a h)
    (h2 : ∀ a' h', R a h a' h' → Q (.exit id) a' h') : DLoop P F c Q a h :=
  DWp.mono (fun e a' h' ⟨he, hr⟩ => by subst he; exact h2 a' h' hr) h1
def puts : Act → List (Nat × Value) → Act
  | a, [] => a
  | a, (t, v) :: r => puts (a.put (some t) v) r
theorem puts_nil {a : Act} : puts a [] = a := rfl
theorem puts_cons {a : Act} {t : Nat} {v : Value} {r : List (Nat × Value)} : puts a ((t, v) :: r) = puts (a.put (some t) v) r := rfl
def keep (a : Act) : List Nat → List (Nat × Value)
  | [] => []
  | t :: r => (t, a.tmps.getD t undef) :: keep a r
theorem keep_nil {a : Act} : keep a [] = [] := rfl
theorem keep_cons {a : Act} {t : Nat} {r : List Nat} : keep a (t :: r) = (t, a.tmps.getD t undef) :: keep a r := rfl
/-- The loop has left its number at a place, and other values at others; all else is as it was. -/
def Ends (p : Int → Prop) (n : Nat) (ts : List Nat) (a0 : Act) (h0 : Hp) (a : Act) (h : Hp) : Prop := h = h0 ∧ ∃ s : Int, Hold (p s) ∧ a = puts a0 ((n, .int .i64 s) :: keep a ts)
def Step1 (L s : Int) : Prop := (s = 125 ∨ s = 250) ∧ (L * s) % 1000 = 0
def Step2 (L s : Int) : Prop := 1 ≤ s ∧ s ≤ 250 ∧ (L * s) % 1000 = 0
theorem step_a (L s g : Int) (h : Step2 L s) (hg : 0 ≤ g) : 0 ≤ s * (g % (2000 / s + 1)) ∧ s * (g % (2000 / s + 1)) ≤ 2000 ∧ (L * (s * (g % (2000 / s + 1)))) % 1000 = 0 ∧ 8 ≤ 2000 / s ∧ 2000 / s ≤ 2000 ∧ 0 ≤ g % (2000 / s + 1) ∧ g % (2000 / s + 1) ≤ 2000 / s := by
  obtain ⟨h1, h2, h3⟩ := h
  have d1 : 8 ≤ 2000 / s := Int.le_ediv_of_mul_le (by omega) (by omega)
  have d2 : 2000 / s ≤ 2000 := Int.ediv_le_self _ (by omega)
  have d3 := Int.emod_nonneg g (show 2000 / s + 1 ≠ 0 by omega)
  have d4 := Int.emod_lt_of_pos g (show 0 < 2000 / s + 1 by omega)
  have d5 : s * (2000 / s) ≤ 2000 := Int.mul_ediv_self_le (by omega)
  have d6 : s * (g % (2000 / s + 1)) ≤ s * (2000 / s) := Int.mul_le_mul_of_nonneg_left (by omega) (by omega)
  have d7 : 0 ≤ s * (g % (2000 / s + 1)) := Int.mul_nonneg (by omega) d3
  refine ⟨d7, by omega, ?_, d1, d2, d3, by omega⟩
  rw [← Int.mul_assoc]
  exact Int.emod_eq_zero_of_dvd (Int.dvd_trans (Int.dvd_of_emod_eq_zero h3) (Int.dvd_mul_right _ _))
theorem endA_endS (arm u L A q : Int) (h : L * A = 1000 * q) : endA arm (u * L) A 0 = endS u q := by
  unfold endA endS
  have e : u * L * A = 1000 * (u * q) := by rw [Int.mul_assoc, h, Int.mul_left_comm]
  rw [e]
  simp
attribute [local go_sem] puts_nil puts_cons keep_nil keep_cons
set_option maxHeartbeats 8000000 in
theorem topBoltThread_ok (ro : Addr → Option Value) (q0 q1 q2 p0 p1 p2 p3 r0 r1 x y z d0 d1 an : Int) (hq0 : 0 ≤ q0 ∧ q0 < 256) (hq1 : 0 ≤ q1 ∧ q1 < 256) (hq2 : 0 ≤ q2 ∧ q2 < 256) (hp0 : 0 ≤ p0 ∧ p0 < 256) (hp1 : 0 ≤ p1 ∧ p1 < 256) (hp2 : 0 ≤ p2 ∧ p2 < 256) (hp3 : 0 ≤ p3 ∧ p3 < 256) (hr0 : 0 ≤ r0 ∧ r0 < 256) (hr1 : 0 ≤ r1 ∧ r1 < 256) (hx : 0 ≤ x ∧ x < 65536) (hy : 0 ≤ y ∧ y < 65536) (hz : 0 ≤ z ∧ z < 65536) (hd0 : -128 ≤ d0 ∧ d0 < 128) (hd1 : -128 ≤ d1 ∧ d1 < 128) (han : 0 ≤ an ∧ an < 65536) :
    Cr Try.prog 4 #[.agg #[.int .u8 q0, .int .u8 q1, .int .u8 q2, .int .u8 p0, .int .u8 p1, .int .u8 p2, .int .u8 p3, .int .u8 r0, .int .u8 r1], .agg #[.int .u16 x, .int .u16 y, .int .u16 z, .int .i8 d0, .int .i8 d1], .int .u16 an] ro (.bool true) := by
  have ff := Hold.mk (armForm_fit (x := x) (y := y) (z := z))
  have lb : 4000 ≤ 4 * (1000 + x % 5000) * (1 + x % 3) ∧ 4 * (1000 + x % 5000) * (1 + x % 3) ≤ 72000 ∧ (4 * (1000 + x % 5000) * (1 + x % 3)) % 4 = 0 := by
    have : x % 3 = 0 ∨ x % 3 = 1 ∨ x % 3 = 2 := by omega
    rcases this with h | h | h <;> rw [h] <;> omega
  have wl : IntKind.i64.wrap (4 * (1000 + x % 5000) * (1 + x % 3)) = 4 * (1000 + x % 5000) * (1 + x % 3) := IntWalk.i64_in _ (by omega)
  generalize hL : 4 * (1000 + x % 5000) * (1 + x % 3) = L at lb wl
  have wL500 : IntKind.i64.wrap (L * 500) = L * 500 := IntWalk.i64_in _ (by omega)
  have tL500 : (L * 500).tmod 1000 = (L * 500) % 1000 := Int.tmod_eq_emod_of_nonneg (by omega)
  have wL250 : IntKind.i64.wrap (L * 250) = L * 250 := IntWalk.i64_in _ (by omega)
  have tL250 : (L * 250).tmod 1000 = (L * 250) % 1000 := Int.tmod_eq_emod_of_nonneg (by omega)
  have wL125 : IntKind.i64.wrap (L * 125) = L * 125 := IntWalk.i64_in _ (by omega)
  have tL125 : (L * 125).tmod 1000 = (L * 125) % 1000 := Int.tmod_eq_emod_of_nonneg (by omega)
  have wL25 : IntKind.i64.wrap (L * 25) = L * 25 := IntWalk.i64_in _ (by omega)
  have tL25 : (L * 25).tmod 1000 = (L * 25) % 1000 := Int.tmod_eq_emod_of_nonneg (by omega)
  have wL5 : IntKind.i64.wrap (L * 5) = L * 5 := IntWalk.i64_in _ (by omega)
  have tL5 : (L * 5).tmod 1000 = (L * 5) % 1000 := Int.tmod_eq_emod_of_nonneg (by omega)
  have wL1 : IntKind.i64.wrap (L * 1) = L * 1 := IntWalk.i64_in _ (by omega)
  have tL1 : (L * 1).tmod 1000 = (L * 1) % 1000 := Int.tmod_eq_emod_of_nonneg (by omega)
  have wL50 : IntKind.i64.wrap (L * 50) = L * 50 := IntWalk.i64_in _ (by omega)
  have tL50 : (L * 50).tmod 1000 = (L * 50) % 1000 := Int.tmod_eq_emod_of_nonneg (by omega)
  have wL10 : IntKind.i64.wrap (L * 10) = L * 10 := IntWalk.i64_in _ (by omega)
  have tL10 : (L * 10).tmod 1000 = (L * 10) % 1000 := Int.tmod_eq_emod_of_nonneg (by omega)
  have wL2 : IntKind.i64.wrap (L * 2) = L * 2 := IntWalk.i64_in _ (by omega)
  have tL2 : (L * 2).tmod 1000 = (L * 2) % 1000 := Int.tmod_eq_emod_of_nonneg (by omega)
  have z500 : ((L * 500) % 1000 == 0) = true := by simp; omega
  have z250 : ((L * 250) % 1000 == 0) = true := by simp; omega
  have zp250 : Hold ((L * 250) % 1000 = 0) := ⟨by omega⟩
  have sb : ∀ u : Int, 0 ≤ u → u ≤ 300 → 0 ≤ u * L ∧ u * L ≤ 300 * 72000 := by
    intro u h1 h2
    have := mul_bd (a := u) (b := L) (A := 300) (B := 72000) (by omega) (by omega) (by omega) (by omega)
    exact ⟨Int.mul_nonneg h1 (by omega), this.2⟩
  have u0 := sb (1 + r0) (by omega) (by omega)
  have u1 := sb (1 + r0 + r1 % 20) (by omega) (by omega)
  have v0 : 1 ≤ (1 + r0) * L := by
    have : 1 * L ≤ (1 + r0) * L := Int.mul_le_mul_of_nonneg_right (by omega) (by omega)
    omega
  have v1 : (1 + r0) * L ≤ (1 + r0 + r1 % 20) * L := Int.mul_le_mul_of_nonneg_right (by omega) (by omega)
  have ws0 : IntKind.i64.wrap ((1 + r0) * L) = (1 + r0) * L := IntWalk.i64_in _ (by omega)
  have ws1 : IntKind.i64.wrap ((1 + r0 + r1 % 20) * L) = (1 + r0 + r1 % 20) * L := IntWalk.i64_in _ (by omega)
  have nb : ((1 + r0 + r1 % 20) * L > 100000000) = False := by simp; omega
  have bk : Hold (BoltOk 100 (20 * q1) (30 * q2) p0 (p0 + p1 % 60) p2 (p2 + p3 % 60) ((1 + r0) * L) ((1 + r0 + r1 % 20) * L) (1 + r0) (1 + r0 + r1 % 20) 20000 30000) := ⟨⟨by omega, by omega, by omega, by omega, by omega, by omega, by omega, by omega⟩⟩
  have wg : IntKind.i64.wrap an = an := IntWalk.i64_in _ (by omega)
  have hg0 := Hold.mk han.1
  have lbh := Hold.mk lb
  replace hq0 := Hold.mk hq0
  replace hq1 := Hold.mk hq1
  replace hq2 := Hold.mk hq2
  replace hp0 := Hold.mk hp0
  replace hp1 := Hold.mk hp1
  replace hp2 := Hold.mk hp2
  replace hp3 := Hold.mk hp3
  replace hr0 := Hold.mk hr0
  replace hr1 := Hold.mk hr1
  replace hx := Hold.mk hx
  replace hy := Hold.mk hy
  replace hz := Hold.mk hz
  clear hd0 hd1 han lb sb u0 u1 v0 v1
  (refine Cr.of Try.func4 rfl rfl (fun F hF => ?_); simp only [Try.ntmps4, Try.results4, List.size_toArray, List.length_cons, List.length_nil, Nat.reduceAdd, Nat.reduceSub, Array.replicate_succ, Array.replicate_zero, List.push_toArray, List.append_toArray, List.nil_append, List.cons_append]; simp -implicitDefEqProofs (maxSteps := 1000000) only [go_sem, seval])
  subst hF
  try simp -implicitDefEqProofs (maxSteps := 1000000) only [go_sem, seval, *]
  repeat' (first | ((first | ((with_reducible refine NewK.intro fun g hg hn => ?_) <;> try simp only [own_none_iff] at hn) | ((with_reducible refine GuardB.split (fun hc => ?_) (fun hc => ?_)) <;> (have hc2 := hc; try simp only [beq_eq_false_iff_ne, beq_iff_eq, ne_eq, bne_iff_ne, bne_eq_false_iff_eq, decide_eq_true_eq, decide_eq_false_iff_not, Bool.not_true, Bool.not_false, Int.not_le, Int.not_lt] at hc2)) | ((with_reducible refine CondK.split (fun hc => ?_) (fun hc => ?_)) <;> (have hc2 := hc; try simp only [beq_eq_false_iff_ne, beq_iff_eq, ne_eq, bne_iff_ne, bne_eq_false_iff_eq, decide_eq_true_eq, decide_eq_false_iff_not, Bool.not_true, Bool.not_false, Int.not_le, Int.not_lt] at hc2)) | ((with_reducible refine PickK.split (fun hc => ?_) (fun hc => ?_)) <;> (have hc2 := hc; try simp only [beq_eq_false_iff_ne, beq_iff_eq, ne_eq, bne_iff_ne, bne_eq_false_iff_eq, decide_eq_true_eq, decide_eq_false_iff_not, Bool.not_true, Bool.not_false, Int.not_le, Int.not_lt] at hc2)) | (with_reducible refine dop_buildSlice ?_) | (with_reducible refine dop_build ?_) | ((with_reducible refine Cr.call (f := 18) (armForm_ok _ _ _ _ _ _ hx.out hy.out hz.out) ?_)) | (with_reducible refine CallV.of (f := 18) (armForm_ok _ _ _ _ _ _ hx.out hy.out hz.out) ni18 ?_) | ((with_reducible refine Cr.call (f := 10) (kind_ok _ _ _ _ _ _ _ _ _ _ _ hq0.out hq1.out hq2.out hp0.out hp1.out hp2.out hp3.out hr0.out hr1.out) ?_)) | (with_reducible refine CallV.of (f := 10) (kind_ok _ _ _ _ _ _ _ _ _ _ _ hq0.out hq1.out hq2.out hp0.out hp1.out hp2.out hp3.out hr0.out hr1.out) ni10 ?_) | ((with_reducible refine Cr.call (f := 11) (armSpan_ok _ _ _) ?_)) | (with_reducible refine CallV.of (f := 11) (armSpan_ok _ _ _) ni11 ?_) | ((with_reducible refine DDraw.told (id := 1) [] [] mo ?_ ?_); kernel_rfl) | ((with_reducible refine DDraw.told (id := 13) [] [] mo ?_ ?_); kernel_rfl) | ((with_reducible refine DDraw.told (id := 14) [] [] mo ?_ ?_); kernel_rfl) | ((with_reducible refine GuardD.split (fun hc => ?_) (fun hc => ?_)) <;> (have hc2 := hc; try simp only [beq_eq_false_iff_ne, beq_iff_eq, ne_eq, bne_iff_ne, bne_eq_false_iff_eq, decide_eq_true_eq, decide_eq_false_iff_not, Bool.not_true, Bool.not_false, Int.not_le, Int.not_lt] at hc2)) | (with_reducible refine stp_build ?_) | (with_reducible refine stp_buildSlice ?_) | (with_reducible refine stp_store ?_) | (with_reducible refine stp_ns ?_) | (with_reducible refine NsB.intro (fun h' ho K' hk => by simp -implicitDefEqProofs (maxSteps := 1000000) only [go_sem, seval, *] <;> exact hk) ?_) | (with_reducible refine WrB.intro _ (by simp -implicitDefEqProofs (maxSteps := 1000000) only [go_sem, seval, *]) (fun h' ho K' hk => by simp -implicitDefEqProofs (maxSteps := 1000000) only [go_sem, seval, *]; exact hk) ?_) | ((with_reducible refine DDraw.auto mo ?_ ?_); kernel_rfl)) <;> simp -implicitDefEqProofs (maxSteps := 1000000) only [go_sem, seval, *]) | (with_reducible refine bi_same ?_))
  refine DLoop.cutE (Ends (Step1 L) 10 [39, 40, 41, 42, 43, 44, 45, 46, 47, 48, 49, 50, 51]) 0 ?_ ?_
  · repeat' (first | ((first | (with_reducible refine DLoop.rounds 5 ?_) | ((with_reducible refine NewK.intro fun g hg hn => ?_) <;> try simp only [own_none_iff] at hn) | ((with_reducible refine GuardB.split (fun hc => ?_) (fun hc => ?_)) <;> (have hc2 := hc; try simp only [beq_eq_false_iff_ne, beq_iff_eq, ne_eq, bne_iff_ne, bne_eq_false_iff_eq, decide_eq_true_eq, decide_eq_false_iff_not, Bool.not_true, Bool.not_false, Int.not_le, Int.not_lt] at hc2)) | ((with_reducible refine CondK.split (fun hc => ?_) (fun hc => ?_)) <;> (have hc2 := hc; try simp only [beq_eq_false_iff_ne, beq_iff_eq, ne_eq, bne_iff_ne, bne_eq_false_iff_eq, decide_eq_true_eq, decide_eq_false_iff_not, Bool.not_true, Bool.not_false, Int.not_le, Int.not_lt] at hc2)) | ((with_reducible refine PickK.split (fun hc => ?_) (fun hc => ?_)) <;> (have hc2 := hc; try simp only [beq_eq_false_iff_ne, beq_iff_eq, ne_eq, bne_iff_ne, bne_eq_false_iff_eq, decide_eq_true_eq, decide_eq_false_iff_not, Bool.not_true, Bool.not_false, Int.not_le, Int.not_lt] at hc2)) | (with_reducible refine dop_buildSlice ?_) | (with_reducible refine dop_build ?_) | ((with_reducible refine DDraw.told (id := 1) [] [] mo ?_ ?_); kernel_rfl) | ((with_reducible refine DDraw.told (id := 13) [] [] mo ?_ ?_); kernel_rfl) | ((with_reducible refine DDraw.told (id := 14) [] [] mo ?_ ?_); kernel_rfl) | ((with_reducible refine GuardD.split (fun hc => ?_) (fun hc => ?_)) <;> (have hc2 := hc; try simp only [beq_eq_false_iff_ne, beq_iff_eq, ne_eq, bne_iff_ne, bne_eq_false_iff_eq, decide_eq_true_eq, decide_eq_false_iff_not, Bool.not_true, Bool.not_false, Int.not_le, Int.not_lt] at hc2)) | (with_reducible refine stp_build ?_) | (with_reducible refine stp_buildSlice ?_) | (with_reducible refine stp_store ?_) | (with_reducible refine stp_ns ?_) | (with_reducible refine NsB.intro (fun h' ho K' hk => by simp -implicitDefEqProofs (maxSteps := 1000000) only [go_sem, seval, *] <;> exact hk) ?_) | (with_reducible refine WrB.intro _ (by simp -implicitDefEqProofs (maxSteps := 1000000) only [go_sem, seval, *]) (fun h' ho K' hk => by simp -implicitDefEqProofs (maxSteps := 1000000) only [go_sem, seval, *]; exact hk) ?_) | ((with_reducible refine DDraw.auto mo ?_ ?_); kernel_rfl)) <;> simp -implicitDefEqProofs (maxSteps := 1000000) only [go_sem, seval, *]) | (with_reducible refine bi_same ?_))
    all_goals have zp := zp250.out
    all_goals first
    | (refine ⟨rfl, 125, ⟨?_⟩, ?_⟩; rotate_left; (simp -implicitDefEqProofs only [go_sem, seval] <;> rfl); (unfold Step1; omega))
    | (refine ⟨rfl, 250, ⟨?_⟩, ?_⟩; rotate_left; (simp -implicitDefEqProofs only [go_sem, seval] <;> rfl); (unfold Step1; omega))
    | (refine ⟨rfl, 25, ⟨?_⟩, ?_⟩; rotate_left; (simp -implicitDefEqProofs only [go_sem, seval] <;> rfl); (unfold Step1; omega))
    | (refine ⟨rfl, 5, ⟨?_⟩, ?_⟩; rotate_left; (simp -implicitDefEqProofs only [go_sem, seval] <;> rfl); (unfold Step1; omega))
    | (refine ⟨rfl, 1, ⟨?_⟩, ?_⟩; rotate_left; (simp -implicitDefEqProofs only [go_sem, seval] <;> rfl); (unfold Step1; omega))
    | (refine ⟨rfl, 50, ⟨?_⟩, ?_⟩; rotate_left; (simp -implicitDefEqProofs only [go_sem, seval] <;> rfl); (unfold Step1; omega))
    | (refine ⟨rfl, 10, ⟨?_⟩, ?_⟩; rotate_left; (simp -implicitDefEqProofs only [go_sem, seval] <;> rfl); (unfold Step1; omega))
    | (refine ⟨rfl, 2, ⟨?_⟩, ?_⟩; rotate_left; (simp -implicitDefEqProofs only [go_sem, seval] <;> rfl); (unfold Step1; omega))
  rintro a' h' ⟨rfl, s, hs, ha⟩
  simp only [keep_cons, keep_nil] at ha
  generalize a'.tmps.getD 39 undef = x39 at ha
  generalize a'.tmps.getD 40 undef = x40 at ha
  generalize a'.tmps.getD 41 undef = x41 at ha
  generalize a'.tmps.getD 42 undef = x42 at ha
  generalize a'.tmps.getD 43 undef = x43 at ha
  generalize a'.tmps.getD 44 undef = x44 at ha
  generalize a'.tmps.getD 45 undef = x45 at ha
  generalize a'.tmps.getD 46 undef = x46 at ha
  generalize a'.tmps.getD 47 undef = x47 at ha
  generalize a'.tmps.getD 48 undef = x48 at ha
  generalize a'.tmps.getD 49 undef = x49 at ha
  generalize a'.tmps.getD 50 undef = x50 at ha
  generalize a'.tmps.getD 51 undef = x51 at ha
  subst ha
  try simp -implicitDefEqProofs (maxSteps := 1000000) only [go_sem, seval, *]
  refine DLoop.cutE (Ends (Step2 L) 10 [52, 53, 54, 55, 56, 57, 58, 59, 60, 61, 62, 63, 64]) 2 ?_ ?_
  · obtain ⟨hs1, hs2⟩ := hs.out
    rcases hs1 with rfl | rfl
    · repeat' (first | ((first | (with_reducible refine DLoop.rounds 5 ?_) | ((with_reducible refine NewK.intro fun g hg hn => ?_) <;> try simp only [own_none_iff] at hn) | ((with_reducible refine GuardB.split (fun hc => ?_) (fun hc => ?_)) <;> (have hc2 := hc; try simp only [beq_eq_false_iff_ne, beq_iff_eq, ne_eq, bne_iff_ne, bne_eq_false_iff_eq, decide_eq_true_eq, decide_eq_false_iff_not, Bool.not_true, Bool.not_false, Int.not_le, Int.not_lt] at hc2)) | ((with_reducible refine CondK.split (fun hc => ?_) (fun hc => ?_)) <;> (have hc2 := hc; try simp only [beq_eq_false_iff_ne, beq_iff_eq, ne_eq, bne_iff_ne, bne_eq_false_iff_eq, decide_eq_true_eq, decide_eq_false_iff_not, Bool.not_true, Bool.not_false, Int.not_le, Int.not_lt] at hc2)) | ((with_reducible refine PickK.split (fun hc => ?_) (fun hc => ?_)) <;> (have hc2 := hc; try simp only [beq_eq_false_iff_ne, beq_iff_eq, ne_eq, bne_iff_ne, bne_eq_false_iff_eq, decide_eq_true_eq, decide_eq_false_iff_not, Bool.not_true, Bool.not_false, Int.not_le, Int.not_lt] at hc2)) | (with_reducible refine dop_buildSlice ?_) | (with_reducible refine dop_build ?_) | ((with_reducible refine DDraw.told (id := 1) [] [] mo ?_ ?_); kernel_rfl) | ((with_reducible refine DDraw.told (id := 13) [] [] mo ?_ ?_); kernel_rfl) | ((with_reducible refine DDraw.told (id := 14) [] [] mo ?_ ?_); kernel_rfl) | ((with_reducible refine GuardD.split (fun hc => ?_) (fun hc => ?_)) <;> (have hc2 := hc; try simp only [beq_eq_false_iff_ne, beq_iff_eq, ne_eq, bne_iff_ne, bne_eq_false_iff_eq, decide_eq_true_eq, decide_eq_false_iff_not, Bool.not_true, Bool.not_false, Int.not_le, Int.not_lt] at hc2)) | (with_reducible refine stp_build ?_) | (with_reducible refine stp_buildSlice ?_) | (with_reducible refine stp_store ?_) | (with_reducible refine stp_ns ?_) | (with_reducible refine NsB.intro (fun h' ho K' hk => by simp -implicitDefEqProofs (maxSteps := 1000000) only [go_sem, seval, *] <;> exact hk) ?_) | (with_reducible refine WrB.intro _ (by simp -implicitDefEqProofs (maxSteps := 1000000) only [go_sem, seval, *]) (fun h' ho K' hk => by simp -implicitDefEqProofs (maxSteps := 1000000) only [go_sem, seval, *]; exact hk) ?_) | ((with_reducible refine DDraw.auto mo ?_ ?_); kernel_rfl)) <;> simp -implicitDefEqProofs (maxSteps := 1000000) only [go_sem, seval, *]) | (with_reducible refine bi_same ?_))
      all_goals first
    | (refine ⟨rfl, 125, ⟨?_⟩, ?_⟩; rotate_left; (simp -implicitDefEqProofs only [go_sem, seval] <;> rfl); (unfold Step2; omega))
    | (refine ⟨rfl, 250, ⟨?_⟩, ?_⟩; rotate_left; (simp -implicitDefEqProofs only [go_sem, seval] <;> rfl); (unfold Step2; omega))
    | (refine ⟨rfl, 25, ⟨?_⟩, ?_⟩; rotate_left; (simp -implicitDefEqProofs only [go_sem, seval] <;> rfl); (unfold Step2; omega))
    | (refine ⟨rfl, 5, ⟨?_⟩, ?_⟩; rotate_left; (simp -implicitDefEqProofs only [go_sem, seval] <;> rfl); (unfold Step2; omega))
    | (refine ⟨rfl, 1, ⟨?_⟩, ?_⟩; rotate_left; (simp -implicitDefEqProofs only [go_sem, seval] <;> rfl); (unfold Step2; omega))
    | (refine ⟨rfl, 50, ⟨?_⟩, ?_⟩; rotate_left; (simp -implicitDefEqProofs only [go_sem, seval] <;> rfl); (unfold Step2; omega))
    | (refine ⟨rfl, 10, ⟨?_⟩, ?_⟩; rotate_left; (simp -implicitDefEqProofs only [go_sem, seval] <;> rfl); (unfold Step2; omega))
    | (refine ⟨rfl, 2, ⟨?_⟩, ?_⟩; rotate_left; (simp -implicitDefEqProofs only [go_sem, seval] <;> rfl); (unfold Step2; omega))
    · repeat' (first | ((first | (with_reducible refine DLoop.rounds 5 ?_) | ((with_reducible refine NewK.intro fun g hg hn => ?_) <;> try simp only [own_none_iff] at hn) | ((with_reducible refine GuardB.split (fun hc => ?_) (fun hc => ?_)) <;> (have hc2 := hc; try simp only [beq_eq_false_iff_ne, beq_iff_eq, ne_eq, bne_iff_ne, bne_eq_false_iff_eq, decide_eq_true_eq, decide_eq_false_iff_not, Bool.not_true, Bool.not_false, Int.not_le, Int.not_lt] at hc2)) | ((with_reducible refine CondK.split (fun hc => ?_) (fun hc => ?_)) <;> (have hc2 := hc; try simp only [beq_eq_false_iff_ne, beq_iff_eq, ne_eq, bne_iff_ne, bne_eq_false_iff_eq, decide_eq_true_eq, decide_eq_false_iff_not, Bool.not_true, Bool.not_false, Int.not_le, Int.not_lt] at hc2)) | ((with_reducible refine PickK.split (fun hc => ?_) (fun hc => ?_)) <;> (have hc2 := hc; try simp only [beq_eq_false_iff_ne, beq_iff_eq, ne_eq, bne_iff_ne, bne_eq_false_iff_eq, decide_eq_true_eq, decide_eq_false_iff_not, Bool.not_true, Bool.not_false, Int.not_le, Int.not_lt] at hc2)) | (with_reducible refine dop_buildSlice ?_) | (with_reducible refine dop_build ?_) | ((with_reducible refine DDraw.told (id := 1) [] [] mo ?_ ?_); kernel_rfl) | ((with_reducible refine DDraw.told (id := 13) [] [] mo ?_ ?_); kernel_rfl) | ((with_reducible refine DDraw.told (id := 14) [] [] mo ?_ ?_); kernel_rfl) | ((with_reducible refine GuardD.split (fun hc => ?_) (fun hc => ?_)) <;> (have hc2 := hc; try simp only [beq_eq_false_iff_ne, beq_iff_eq, ne_eq, bne_iff_ne, bne_eq_false_iff_eq, decide_eq_true_eq, decide_eq_false_iff_not, Bool.not_true, Bool.not_false, Int.not_le, Int.not_lt] at hc2)) | (with_reducible refine stp_build ?_) | (with_reducible refine stp_buildSlice ?_) | (with_reducible refine stp_store ?_) | (with_reducible refine stp_ns ?_) | (with_reducible refine NsB.intro (fun h' ho K' hk => by simp -implicitDefEqProofs (maxSteps := 1000000) only [go_sem, seval, *] <;> exact hk) ?_) | (with_reducible refine WrB.intro _ (by simp -implicitDefEqProofs (maxSteps := 1000000) only [go_sem, seval, *]) (fun h' ho K' hk => by simp -implicitDefEqProofs (maxSteps := 1000000) only [go_sem, seval, *]; exact hk) ?_) | ((with_reducible refine DDraw.auto mo ?_ ?_); kernel_rfl)) <;> simp -implicitDefEqProofs (maxSteps := 1000000) only [go_sem, seval, *]) | (with_reducible refine bi_same ?_))
      all_goals first
    | (refine ⟨rfl, 125, ⟨?_⟩, ?_⟩; rotate_left; (simp -implicitDefEqProofs only [go_sem, seval] <;> rfl); (unfold Step2; omega))
    | (refine ⟨rfl, 250, ⟨?_⟩, ?_⟩; rotate_left; (simp -implicitDefEqProofs only [go_sem, seval] <;> rfl); (unfold Step2; omega))
    | (refine ⟨rfl, 25, ⟨?_⟩, ?_⟩; rotate_left; (simp -implicitDefEqProofs only [go_sem, seval] <;> rfl); (unfold Step2; omega))
    | (refine ⟨rfl, 5, ⟨?_⟩, ?_⟩; rotate_left; (simp -implicitDefEqProofs only [go_sem, seval] <;> rfl); (unfold Step2; omega))
    | (refine ⟨rfl, 1, ⟨?_⟩, ?_⟩; rotate_left; (simp -implicitDefEqProofs only [go_sem, seval] <;> rfl); (unfold Step2; omega))
    | (refine ⟨rfl, 50, ⟨?_⟩, ?_⟩; rotate_left; (simp -implicitDefEqProofs only [go_sem, seval] <;> rfl); (unfold Step2; omega))
    | (refine ⟨rfl, 10, ⟨?_⟩, ?_⟩; rotate_left; (simp -implicitDefEqProofs only [go_sem, seval] <;> rfl); (unfold Step2; omega))
    | (refine ⟨rfl, 2, ⟨?_⟩, ?_⟩; rotate_left; (simp -implicitDefEqProofs only [go_sem, seval] <;> rfl); (unfold Step2; omega))
  rintro a' h' ⟨rfl, s2, hs2, ha⟩
  simp only [keep_cons, keep_nil] at ha
  generalize a'.tmps.getD 52 undef = x52 at ha
  generalize a'.tmps.getD 53 undef = x53 at ha
  generalize a'.tmps.getD 54 undef = x54 at ha
  generalize a'.tmps.getD 55 undef = x55 at ha
  generalize a'.tmps.getD 56 undef = x56 at ha
  generalize a'.tmps.getD 57 undef = x57 at ha
  generalize a'.tmps.getD 58 undef = x58 at ha
  generalize a'.tmps.getD 59 undef = x59 at ha
  generalize a'.tmps.getD 60 undef = x60 at ha
  generalize a'.tmps.getD 61 undef = x61 at ha
  generalize a'.tmps.getD 62 undef = x62 at ha
  generalize a'.tmps.getD 63 undef = x63 at ha
  generalize a'.tmps.getD 64 undef = x64 at ha
  subst ha
  simp -implicitDefEqProofs (maxSteps := 1000000) only [go_sem, seval]
  have st := step_a L s2 an hs2.out hg0.out
  have s2b : 1 ≤ s2 ∧ s2 ≤ 250 := ⟨hs2.out.1, hs2.out.2.1⟩
  have d1 : IntKind.i64.wrap ((2000 : Int).tdiv s2) = 2000 / s2 := IntWalk.i64_quo _ _ (by omega)
  have d2 : IntKind.i64.wrap (2000 / s2 + 1) = 2000 / s2 + 1 := IntWalk.i64_in _ (by omega)
  have d3 : an.tmod (2000 / s2 + 1) = an % (2000 / s2 + 1) := Int.tmod_eq_emod_of_nonneg hg0.out
  have n1 : (s2 == 0) = false := by simp; omega
  have n2 : (s2 = 0) = False := by simp; omega
  have n3 : (2000 / s2 + 1 == 0) = false := by simp; omega
  have n4 : (2000 / s2 + 1 = 0) = False := by simp; omega
  have d4 : IntKind.i64.wrap (s2 * (an % (2000 / s2 + 1))) = s2 * (an % (2000 / s2 + 1)) := IntWalk.i64_in _ (by omega)
  generalize hA : s2 * (an % (2000 / s2 + 1)) = A at st d4
  have lb := lbh.out
  have mA := mul_bd (a := L) (b := A) (A := 72000) (B := 2000) (by omega) (by omega) (by omega) (by omega)
  have mB : 0 ≤ L * A := Int.mul_nonneg (by omega) (by omega)
  obtain ⟨q, hq⟩ : ∃ q, L * A = 1000 * q := ⟨L * A / 1000, by omega⟩
  have d5 : IntKind.i64.wrap (1000 * A) = 1000 * A := IntWalk.i64_in _ (by omega)
  have d6 : IntKind.i64.wrap (L * A) = 1000 * q := by rw [hq]; exact IntWalk.i64_in _ (by omega)
  have d7 : IntKind.i64.wrap ((1000 * q).tdiv 1000) = q := by rw [IntWalk.i64_quo _ _ (by omega)]; omega
  obtain ⟨k1, k2⟩ := rat_whole (L * (1000 * A)) q (by rw [Int.mul_left_comm, hq]; omega)
  have k3 : ∀ arm, endA arm ((1 + r0) * L) A 0 = endS (1 + r0) q := fun arm => endA_endS _ _ _ _ _ hq
  have k4 : ∀ arm, endA arm ((1 + r0 + r1 % 20) * L) A 0 = endS (1 + r0 + r1 % 20) q := fun arm => endA_endS _ _ _ _ _ hq
  have y1 : Hold (-1000000000 ≤ 1000 * A ∧ 1000 * A ≤ 1000000000) := ⟨by omega⟩
  have y2 : Hold (0 ≤ A ∧ A ≤ A ∧ A ≤ 100000) := ⟨by omega⟩
  have y3 : Hold (0 ≤ q) := ⟨by omega⟩
  clear st s2b lb mA mB hq
  try simp -implicitDefEqProofs (maxSteps := 1000000) only [go_sem, seval, *]
  repeat' (first | ((first | ((with_reducible refine NewK.intro fun g hg hn => ?_) <;> try simp only [own_none_iff] at hn) | ((with_reducible refine GuardB.split (fun hc => ?_) (fun hc => ?_)) <;> (have hc2 := hc; try simp only [beq_eq_false_iff_ne, beq_iff_eq, ne_eq, bne_iff_ne, bne_eq_false_iff_eq, decide_eq_true_eq, decide_eq_false_iff_not, Bool.not_true, Bool.not_false, Int.not_le, Int.not_lt] at hc2)) | ((with_reducible refine CondK.split (fun hc => ?_) (fun hc => ?_)) <;> (have hc2 := hc; try simp only [beq_eq_false_iff_ne, beq_iff_eq, ne_eq, bne_iff_ne, bne_eq_false_iff_eq, decide_eq_true_eq, decide_eq_false_iff_not, Bool.not_true, Bool.not_false, Int.not_le, Int.not_lt] at hc2)) | ((with_reducible refine PickK.split (fun hc => ?_) (fun hc => ?_)) <;> (have hc2 := hc; try simp only [beq_eq_false_iff_ne, beq_iff_eq, ne_eq, bne_iff_ne, bne_eq_false_iff_eq, decide_eq_true_eq, decide_eq_false_iff_not, Bool.not_true, Bool.not_false, Int.not_le, Int.not_lt] at hc2)) | (with_reducible refine dop_buildSlice ?_) | (with_reducible refine dop_build ?_) | ((with_reducible refine Cr.call (f := 19) (advance_ok _ _ _ _ _ _ _ _ _ ff.out y1.out) ?_)) | (with_reducible refine CallV.of (f := 19) (advance_ok _ _ _ _ _ _ _ _ _ ff.out y1.out) ni19 ?_) | ((with_reducible refine Cr.call (f := 20) (armThread_ok _) ?_)) | (with_reducible refine CallV.of (f := 20) (armThread_ok _) ni20 ?_) | ((with_reducible refine Cr.call (f := 16) (armBolt_ok _) ?_)) | (with_reducible refine CallV.of (f := 16) (armBolt_ok _) ni16 ?_) | ((with_reducible refine Cr.call (f := 11) (armSpan_ok _ _ _) ?_)) | (with_reducible refine CallV.of (f := 11) (armSpan_ok _ _ _) ni11 ?_) | ((with_reducible refine Cr.call (f := 17) (ForceA _ _ _ _ _ _ _ _ _ _ _ _ _ _ _ _ _ _ bk.out (by decide) y2.out) ?_)) | (with_reducible refine CallV.of (f := 17) (ForceA _ _ _ _ _ _ _ _ _ _ _ _ _ _ _ _ _ _ bk.out (by decide) y2.out) ni17 ?_) | ((with_reducible refine Cr.call (f := 17) (ForceS _ _ _ _ _ _ _ _ _ _ _ _ _ _ _ _ bk.out ⟨y3.out, by omega, by omega⟩) ?_)) | (with_reducible refine CallV.of (f := 17) (ForceS _ _ _ _ _ _ _ _ _ _ _ _ _ _ _ _ bk.out ⟨y3.out, by omega, by omega⟩) ni17 ?_) | ((with_reducible refine DDraw.told (id := 1) [] [] mo ?_ ?_); kernel_rfl) | ((with_reducible refine DDraw.told (id := 13) [] [] mo ?_ ?_); kernel_rfl) | ((with_reducible refine DDraw.told (id := 14) [] [] mo ?_ ?_); kernel_rfl) | ((with_reducible refine GuardD.split (fun hc => ?_) (fun hc => ?_)) <;> (have hc2 := hc; try simp only [beq_eq_false_iff_ne, beq_iff_eq, ne_eq, bne_iff_ne, bne_eq_false_iff_eq, decide_eq_true_eq, decide_eq_false_iff_not, Bool.not_true, Bool.not_false, Int.not_le, Int.not_lt] at hc2)) | (with_reducible refine stp_build ?_) | (with_reducible refine stp_buildSlice ?_) | (with_reducible refine stp_store ?_) | (with_reducible refine stp_ns ?_) | (with_reducible refine NsB.intro (fun h' ho K' hk => by simp -implicitDefEqProofs (maxSteps := 1000000) only [go_sem, seval, *] <;> exact hk) ?_) | (with_reducible refine WrB.intro _ (by simp -implicitDefEqProofs (maxSteps := 1000000) only [go_sem, seval, *]) (fun h' ho K' hk => by simp -implicitDefEqProofs (maxSteps := 1000000) only [go_sem, seval, *]; exact hk) ?_) | ((with_reducible refine DDraw.auto mo ?_ ?_); kernel_rfl)) <;> simp -implicitDefEqProofs (maxSteps := 1000000) only [go_sem, seval, *]) | (with_reducible refine bi_same ?_))

end Go.Proofs.Ytdhdfdaclbfkiaa
