/-
  Walks. Conditions: none.
-/
import Derived.Test.YtdhdfdaclbfkiaaW4
set_option linter.unusedVariables false
set_option linter.unusedSimpArgs false
namespace Go.Proofs.Ytdhdfdaclbfkiaa
open Go.RowKit Go.SL
set_option maxHeartbeats 1000000
set_option maxRecDepth 1000000
theorem gcd_step (a b : Int) : Int.gcd b (a.tmod b) = Int.gcd a b := by
  have h := Int.gcd_comm a b
  rw [h]
  have e : a = b * a.tdiv b + a.tmod b := by have := Int.mul_tdiv_add_tmod a b; omega
  conv => rhs; rw [e]
  rw [Int.gcd_mul_left_add_right]
def GcdI (a0 b0 : Int) (k : Nat) (a : Act) (h : Hp) : Prop :=
  ∃ (x y : Int) (x2 x3 x5 x6 x7 x8 x9 x10 x11 x12 x13 x14 : Value), Hold (y.natAbs ≤ k ∧ -1000000000000000000 ≤ x ∧ x ≤ 1000000000000000000 ∧ -1000000000000000000 ≤ y ∧ y ≤ 1000000000000000000) ∧ Hold (Int.gcd x y = Int.gcd a0 b0) ∧ h = Hp.none_ ∧
    a = ⟨#[.int .i64 x, .int .i64 y, x2, x3, .int .i64 0, x5, x6, x7, x8, x9, x10, x11, x12, x13, x14], []⟩
theorem gcd_ok (ro : Addr → Option Value) (a b : Int) (ha : -1000000000000000000 ≤ a ∧ a ≤ 1000000000000000000) (hb : -1000000000000000000 ≤ b ∧ b ≤ 1000000000000000000) :
    Cr Try.prog 106 #[.int .i64 a, .int .i64 b] ro (.int .i64 (Int.gcd a b)) := by
  (refine Cr.of Try.func106 rfl rfl (fun F hF => ?_); simp only [Try.ntmps106, Try.results106, List.size_toArray, List.length_cons, List.length_nil, Nat.reduceAdd, Nat.reduceSub, Array.replicate_succ, Array.replicate_zero, List.push_toArray, List.append_toArray, List.nil_append, List.cons_append]; simp -implicitDefEqProofs (maxSteps := 1000000) only [go_sem, seval])
  subst hF
  refine DLoop.ind (GcdI a b) b.natAbs ⟨a, b, _, _, _, _, _, _, _, _, _, _, _, _, ⟨by omega⟩, ⟨rfl⟩, rfl, rfl⟩ ?_
  rintro k a1 h ⟨x, y, x2, x3, x5, x6, x7, x8, x9, x10, x11, x12, x13, x14, hk, hg, rfl, rfl⟩
  simp -implicitDefEqProofs (maxSteps := 1000000) only [go_sem, seval, *]
  refine CondK.split (fun hc => ?_) (fun hc => ?_)
  · have hy : ¬ y = 0 := by simpa using hc
    have hyb : (y == 0) = false := by simpa using hy
    simp -implicitDefEqProofs (maxSteps := 1000000) only [go_sem, seval, hyb]
    repeat' (first | ((first | ((with_reducible refine NewK.intro fun g hg hn => ?_) <;> try simp only [own_none_iff] at hn) | ((with_reducible refine GuardB.split (fun hc => ?_) (fun hc => ?_)) <;> (have hc2 := hc; try simp only [beq_eq_false_iff_ne, beq_iff_eq, ne_eq, bne_iff_ne, bne_eq_false_iff_eq, decide_eq_true_eq, decide_eq_false_iff_not, Bool.not_true, Bool.not_false, Int.not_le, Int.not_lt] at hc2)) | ((with_reducible refine CondK.split (fun hc => ?_) (fun hc => ?_)) <;> (have hc2 := hc; try simp only [beq_eq_false_iff_ne, beq_iff_eq, ne_eq, bne_iff_ne, bne_eq_false_iff_eq, decide_eq_true_eq, decide_eq_false_iff_not, Bool.not_true, Bool.not_false, Int.not_le, Int.not_lt] at hc2)) | ((with_reducible refine PickK.split (fun hc => ?_) (fun hc => ?_)) <;> (have hc2 := hc; try simp only [beq_eq_false_iff_ne, beq_iff_eq, ne_eq, bne_iff_ne, bne_eq_false_iff_eq, decide_eq_true_eq, decide_eq_false_iff_not, Bool.not_true, Bool.not_false, Int.not_le, Int.not_lt] at hc2)) | (with_reducible refine dop_buildSlice ?_) | (with_reducible refine dop_build ?_) | ((with_reducible refine GuardD.split (fun hc => ?_) (fun hc => ?_)) <;> (have hc2 := hc; try simp only [beq_eq_false_iff_ne, beq_iff_eq, ne_eq, bne_iff_ne, bne_eq_false_iff_eq, decide_eq_true_eq, decide_eq_false_iff_not, Bool.not_true, Bool.not_false, Int.not_le, Int.not_lt] at hc2)) | (with_reducible refine stp_build ?_) | (with_reducible refine stp_buildSlice ?_) | (with_reducible refine stp_store ?_) | (with_reducible refine stp_ns ?_) | (with_reducible refine NsB.intro (fun h' ho K' hk => by simp -implicitDefEqProofs (maxSteps := 1000000) only [go_sem, seval, *] <;> exact hk) ?_) | (with_reducible refine WrB.intro _ (by simp -implicitDefEqProofs (maxSteps := 1000000) only [go_sem, seval, *]) (fun h' ho K' hk => by simp -implicitDefEqProofs (maxSteps := 1000000) only [go_sem, seval, *]; exact hk) (fun h' ho K' hk => by simp -implicitDefEqProofs (maxSteps := 1000000) only [go_sem, seval, *] at hk; exact hk) (fun h' ho hk => by simp -implicitDefEqProofs (maxSteps := 1000000) only [go_sem, seval, *] at hk <;> with_unfolding_all exact False.elim hk) ?_) | (with_reducible refine WrB.intro _ (by simp -implicitDefEqProofs (maxSteps := 1000000) only [go_sem, seval, *]) (fun h' ho K' hk => by simp -implicitDefEqProofs (maxSteps := 1000000) only [go_sem, seval, *]; exact hk) ?_) | ((with_reducible refine DDraw.auto mo ?_ ?_); kernel_rfl)) <;> simp -implicitDefEqProofs (maxSteps := 1000000) only [go_sem, seval, *]) | (with_reducible refine bi_same ?_))
    have h1 := hk.out
    have h2 := Int.natAbs_tmod x y
    have h3 : x.natAbs % y.natAbs < y.natAbs := Nat.mod_lt _ (by omega)
    refine LoopK.intro (k - 1) (by omega) ⟨y, x.tmod y, _, _, _, _, _, _, _, _, _, _, _, _, ⟨by omega⟩, ⟨by rw [gcd_step]; exact hg.out⟩, rfl, rfl⟩
  · have hy : y = 0 := by simpa using hc
    subst hy
    simp -implicitDefEqProofs (maxSteps := 1000000) only [go_sem, seval, *]
    have h1 := hk.out
    have h2 := hg.out
    rw [Int.gcd_zero_right] at h2
    rw [IntWalk.i64_in _ (by omega), ← h2]
    congr 1
    omega

end Go.Proofs.Ytdhdfdaclbfkiaa
