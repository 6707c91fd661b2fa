/-
  Walks. Conditions: none.
-/
import Derived.Test.YtdhdfdaclbfkiaaW1
set_option linter.unusedVariables false
set_option linter.unusedSimpArgs false
namespace Go.Proofs.Ytdhdfdaclbfkiaa
open Go.RowKit Go.SL
set_option maxHeartbeats 1000000
set_option maxRecDepth 1000000
theorem mul_bd {a b A B : Int} (h1 : -A ≤ a) (h2 : a ≤ A) (h3 : -B ≤ b) (h4 : b ≤ B) : -(A * B) ≤ a * b ∧ a * b ≤ A * B := by
  have hA : 0 ≤ A := by omega
  have hB : 0 ≤ B := by omega
  have e1 : a * b ≤ A * B := by
    rcases Int.le_total 0 b with hb | hb
    · exact Int.le_trans (Int.mul_le_mul_of_nonneg_right h2 hb) (Int.mul_le_mul_of_nonneg_left h4 hA)
    · have := Int.mul_le_mul_of_nonneg_right (show -a ≤ A by omega) (show 0 ≤ -b by omega)
      have h5 := Int.mul_le_mul_of_nonneg_left (show -b ≤ B by omega) hA
      rw [Int.neg_mul_neg] at this
      omega
  have e2 : -(a * b) ≤ A * B := by
    rcases Int.le_total 0 b with hb | hb
    · have := Int.mul_le_mul_of_nonneg_right (show -a ≤ A by omega) hb
      have h5 := Int.mul_le_mul_of_nonneg_left h4 hA
      rw [Int.neg_mul] at this
      omega
    · have := Int.mul_le_mul_of_nonneg_right h2 (show 0 ≤ -b by omega)
      have h5 := Int.mul_le_mul_of_nonneg_left (show -b ≤ B by omega) hA
      rw [Int.mul_neg] at this
      omega
  omega
theorem leans_ok (ro : Addr → Option Value) (p l r a b s : Int) (lh : Bool) (t : Int) (hl : Hold (0 ≤ l ∧ l ≤ 3000)) (hr : Hold (0 ≤ r ∧ r ≤ 3000)) :
    Cr Try.prog 68 #[.agg #[.int .i64 p, .int .i64 l, .int .i64 r, .int .i64 a, .int .i64 b, .int .i64 s, .bool lh, .int .i64 t]] ro (.int .i64 (l + r)) := by
  (refine Cr.of Try.func68 rfl rfl (fun F hF => ?_); simp only [Try.ntmps68, Try.results68, List.size_toArray, List.length_cons, List.length_nil, Nat.reduceAdd, Nat.reduceSub, Array.replicate_succ, Array.replicate_zero, List.push_toArray, List.append_toArray, List.nil_append, List.cons_append]; simp -implicitDefEqProofs (maxSteps := 1000000) only [go_sem, seval])
  subst hF
  repeat' (first | ((first | ((with_reducible refine NewK.intro fun g hg hn => ?_) <;> try simp only [own_none_iff] at hn) | ((with_reducible refine GuardB.split (fun hc => ?_) (fun hc => ?_)) <;> (have hc2 := hc; try simp only [beq_eq_false_iff_ne, beq_iff_eq, ne_eq, bne_iff_ne, bne_eq_false_iff_eq, decide_eq_true_eq, decide_eq_false_iff_not, Bool.not_true, Bool.not_false, Int.not_le, Int.not_lt] at hc2)) | ((with_reducible refine CondK.split (fun hc => ?_) (fun hc => ?_)) <;> (have hc2 := hc; try simp only [beq_eq_false_iff_ne, beq_iff_eq, ne_eq, bne_iff_ne, bne_eq_false_iff_eq, decide_eq_true_eq, decide_eq_false_iff_not, Bool.not_true, Bool.not_false, Int.not_le, Int.not_lt] at hc2)) | ((with_reducible refine PickK.split (fun hc => ?_) (fun hc => ?_)) <;> (have hc2 := hc; try simp only [beq_eq_false_iff_ne, beq_iff_eq, ne_eq, bne_iff_ne, bne_eq_false_iff_eq, decide_eq_true_eq, decide_eq_false_iff_not, Bool.not_true, Bool.not_false, Int.not_le, Int.not_lt] at hc2)) | (with_reducible refine dop_buildSlice ?_) | (with_reducible refine dop_build ?_) | ((with_reducible refine GuardD.split (fun hc => ?_) (fun hc => ?_)) <;> (have hc2 := hc; try simp only [beq_eq_false_iff_ne, beq_iff_eq, ne_eq, bne_iff_ne, bne_eq_false_iff_eq, decide_eq_true_eq, decide_eq_false_iff_not, Bool.not_true, Bool.not_false, Int.not_le, Int.not_lt] at hc2)) | (with_reducible refine stp_build ?_) | (with_reducible refine stp_buildSlice ?_) | (with_reducible refine stp_store ?_) | (with_reducible refine stp_ns ?_) | (with_reducible refine NsB.intro (fun h' ho K' hk => by simp -implicitDefEqProofs (maxSteps := 1000000) only [go_sem, seval, *] <;> exact hk) ?_) | (with_reducible refine WrB.intro _ (by simp -implicitDefEqProofs (maxSteps := 1000000) only [go_sem, seval, *]) (fun h' ho K' hk => by simp -implicitDefEqProofs (maxSteps := 1000000) only [go_sem, seval, *]; exact hk) ?_) | ((with_reducible refine DDraw.auto mo ?_ ?_); kernel_rfl)) <;> simp -implicitDefEqProofs (maxSteps := 1000000) only [go_sem, seval, *]) | (with_reducible refine bi_same ?_))
  rw [IntWalk.i64_in _ (by have := hl.out; have := hr.out; omega)]
theorem width_ok (ro : Addr → Option Value) (p l r a b s : Int) (lh : Bool) (t : Int) (y : Int) (hp : Hold (0 ≤ p ∧ p ≤ 200000)) (hl : Hold (0 ≤ l ∧ l ≤ 3000)) (hr : Hold (0 ≤ r ∧ r ≤ 3000)) (hy : Hold (-200000 ≤ y ∧ y ≤ 200000)) :
    Cr Try.prog 87 #[.agg #[.int .i64 p, .int .i64 l, .int .i64 r, .int .i64 a, .int .i64 b, .int .i64 s, .bool lh, .int .i64 t], .int .i64 y] ro (.int .i64 (1000 * p - 2 * y * (l + r))) := by
  (refine Cr.of Try.func87 rfl rfl (fun F hF => ?_); simp only [Try.ntmps87, Try.results87, List.size_toArray, List.length_cons, List.length_nil, Nat.reduceAdd, Nat.reduceSub, Array.replicate_succ, Array.replicate_zero, List.push_toArray, List.append_toArray, List.nil_append, List.cons_append]; simp -implicitDefEqProofs (maxSteps := 1000000) only [go_sem, seval])
  subst hF
  repeat' (first | ((first | ((with_reducible refine NewK.intro fun g hg hn => ?_) <;> try simp only [own_none_iff] at hn) | ((with_reducible refine GuardB.split (fun hc => ?_) (fun hc => ?_)) <;> (have hc2 := hc; try simp only [beq_eq_false_iff_ne, beq_iff_eq, ne_eq, bne_iff_ne, bne_eq_false_iff_eq, decide_eq_true_eq, decide_eq_false_iff_not, Bool.not_true, Bool.not_false, Int.not_le, Int.not_lt] at hc2)) | ((with_reducible refine CondK.split (fun hc => ?_) (fun hc => ?_)) <;> (have hc2 := hc; try simp only [beq_eq_false_iff_ne, beq_iff_eq, ne_eq, bne_iff_ne, bne_eq_false_iff_eq, decide_eq_true_eq, decide_eq_false_iff_not, Bool.not_true, Bool.not_false, Int.not_le, Int.not_lt] at hc2)) | ((with_reducible refine PickK.split (fun hc => ?_) (fun hc => ?_)) <;> (have hc2 := hc; try simp only [beq_eq_false_iff_ne, beq_iff_eq, ne_eq, bne_iff_ne, bne_eq_false_iff_eq, decide_eq_true_eq, decide_eq_false_iff_not, Bool.not_true, Bool.not_false, Int.not_le, Int.not_lt] at hc2)) | (with_reducible refine dop_buildSlice ?_) | (with_reducible refine dop_build ?_) | ((with_reducible refine Cr.call (f := 68) (leans_ok _ _ _ _ _ _ _ _ _ hl hr) ?_)) | (with_reducible refine CallV.of (f := 68) (leans_ok _ _ _ _ _ _ _ _ _ hl hr) ni68 ?_) | ((with_reducible refine GuardD.split (fun hc => ?_) (fun hc => ?_)) <;> (have hc2 := hc; try simp only [beq_eq_false_iff_ne, beq_iff_eq, ne_eq, bne_iff_ne, bne_eq_false_iff_eq, decide_eq_true_eq, decide_eq_false_iff_not, Bool.not_true, Bool.not_false, Int.not_le, Int.not_lt] at hc2)) | (with_reducible refine stp_build ?_) | (with_reducible refine stp_buildSlice ?_) | (with_reducible refine stp_store ?_) | (with_reducible refine stp_ns ?_) | (with_reducible refine NsB.intro (fun h' ho K' hk => by simp -implicitDefEqProofs (maxSteps := 1000000) only [go_sem, seval, *] <;> exact hk) ?_) | (with_reducible refine WrB.intro _ (by simp -implicitDefEqProofs (maxSteps := 1000000) only [go_sem, seval, *]) (fun h' ho K' hk => by simp -implicitDefEqProofs (maxSteps := 1000000) only [go_sem, seval, *]; exact hk) ?_) | ((with_reducible refine DDraw.auto mo ?_ ?_); kernel_rfl)) <;> simp -implicitDefEqProofs (maxSteps := 1000000) only [go_sem, seval, *]) | (with_reducible refine bi_same ?_))
  have h1 := hp.out
  have h2 := hl.out
  have h3 := hr.out
  have h4 := hy.out
  have h5 := mul_bd (a := 2 * y) (b := l + r) (A := 400000) (B := 6000) (by omega) (by omega) (by omega) (by omega)
  rw [IntWalk.i64_in (1000 * p) (by omega), IntWalk.i64_in (2 * y) (by omega), IntWalk.i64_in (2 * y * (l + r)) (by omega), IntWalk.i64_in _ (by omega)]

/-- A form that is valid. -/
structure FormOk (p l r a b s t : Int) : Prop where
  hp : 100 ≤ p ∧ p ≤ 200000
  hl : 0 ≤ l ∧ l ≤ 3000
  hr : 0 ≤ r ∧ r ≤ 3000
  ha : 0 ≤ a ∧ a ≤ 200000
  hb : 0 ≤ b ∧ b ≤ 200000
  hab : 1 ≤ a + b
  hs : 1 ≤ s ∧ s ≤ 8
  ht : 0 ≤ t ∧ t ≤ 100
  wa : 0 ≤ 1000 * p - 2 * a * (l + r)
  wb : 0 ≤ 1000 * p - 2 * b * (l + r)
theorem check_ok (ro : Addr → Option Value) (p l r a b s : Int) (lh : Bool) (t : Int) (hv : FormOk p l r a b s t) :
    Cr Try.prog 64 #[.agg #[.int .i64 p, .int .i64 l, .int .i64 r, .int .i64 a, .int .i64 b, .int .i64 s, .bool lh, .int .i64 t]] ro (.int .i64 0) := by
  obtain ⟨⟨p1, p2⟩, ⟨l1, l2⟩, ⟨r1, r2⟩, ⟨a1, a2⟩, ⟨b1, b2⟩, ab, ⟨s1, s2⟩, ⟨t1, t2⟩, wa, wb⟩ := hv
  have hab : IntKind.i64.wrap (a + b) = a + b := IntWalk.i64_in _ (by omega)
  have hge : (a + b ≥ 1) = True := by simp; omega
  have nwa : (1000 * p - 2 * a * (l + r) < 0) = False := by simp; omega
  have nwb : (1000 * p - 2 * b * (l + r) < 0) = False := by simp; omega
  (refine Cr.of Try.func64 rfl rfl (fun F hF => ?_); simp only [Try.ntmps64, Try.results64, List.size_toArray, List.length_cons, List.length_nil, Nat.reduceAdd, Nat.reduceSub, Array.replicate_succ, Array.replicate_zero, List.push_toArray, List.append_toArray, List.nil_append, List.cons_append]; simp -implicitDefEqProofs (maxSteps := 1000000) only [go_sem, seval])
  subst hF
  repeat' (first | ((first | ((with_reducible refine NewK.intro fun g hg hn => ?_) <;> try simp only [own_none_iff] at hn) | ((with_reducible refine GuardB.split (fun hc => ?_) (fun hc => ?_)) <;> (have hc2 := hc; try simp only [beq_eq_false_iff_ne, beq_iff_eq, ne_eq, bne_iff_ne, bne_eq_false_iff_eq, decide_eq_true_eq, decide_eq_false_iff_not, Bool.not_true, Bool.not_false, Int.not_le, Int.not_lt] at hc2)) | ((with_reducible refine CondK.split (fun hc => ?_) (fun hc => ?_)) <;> (have hc2 := hc; try simp only [beq_eq_false_iff_ne, beq_iff_eq, ne_eq, bne_iff_ne, bne_eq_false_iff_eq, decide_eq_true_eq, decide_eq_false_iff_not, Bool.not_true, Bool.not_false, Int.not_le, Int.not_lt] at hc2)) | ((with_reducible refine PickK.split (fun hc => ?_) (fun hc => ?_)) <;> (have hc2 := hc; try simp only [beq_eq_false_iff_ne, beq_iff_eq, ne_eq, bne_iff_ne, bne_eq_false_iff_eq, decide_eq_true_eq, decide_eq_false_iff_not, Bool.not_true, Bool.not_false, Int.not_le, Int.not_lt] at hc2)) | (with_reducible refine dop_buildSlice ?_) | (with_reducible refine dop_build ?_) | ((with_reducible refine Cr.call (f := 60) (within_ok _ _ _ _ _ _ _ (by simp -implicitDefEqProofs (maxSteps := 1000000) only [go_sem, seval, *]) ⟨by decide⟩) ?_)) | (with_reducible refine CallV.of (f := 60) (within_ok _ _ _ _ _ _ _ (by simp -implicitDefEqProofs (maxSteps := 1000000) only [go_sem, seval, *]) ⟨by decide⟩) ni60 ?_) | ((with_reducible refine Cr.call (f := 87) (width_ok _ p l r a b s lh t _ ⟨by omega⟩ ⟨by omega⟩ ⟨by omega⟩ ⟨by omega⟩) ?_)) | (with_reducible refine CallV.of (f := 87) (width_ok _ p l r a b s lh t _ ⟨by omega⟩ ⟨by omega⟩ ⟨by omega⟩ ⟨by omega⟩) ni87 ?_) | ((with_reducible refine GuardD.split (fun hc => ?_) (fun hc => ?_)) <;> (have hc2 := hc; try simp only [beq_eq_false_iff_ne, beq_iff_eq, ne_eq, bne_iff_ne, bne_eq_false_iff_eq, decide_eq_true_eq, decide_eq_false_iff_not, Bool.not_true, Bool.not_false, Int.not_le, Int.not_lt] at hc2)) | (with_reducible refine stp_build ?_) | (with_reducible refine stp_buildSlice ?_) | (with_reducible refine stp_store ?_) | (with_reducible refine stp_ns ?_) | (with_reducible refine NsB.intro (fun h' ho K' hk => by simp -implicitDefEqProofs (maxSteps := 1000000) only [go_sem, seval, *] <;> exact hk) ?_) | (with_reducible refine WrB.intro _ (by simp -implicitDefEqProofs (maxSteps := 1000000) only [go_sem, seval, *]) (fun h' ho K' hk => by simp -implicitDefEqProofs (maxSteps := 1000000) only [go_sem, seval, *]; exact hk) ?_) | ((with_reducible refine DDraw.auto mo ?_ ?_); kernel_rfl)) <;> simp -implicitDefEqProofs (maxSteps := 1000000) only [go_sem, seval, *]) | (with_reducible refine bi_same ?_))
theorem open_ok (ro : Addr → Option Value) (p l r a b s : Int) (lh : Bool) (t : Int) (hv : FormOk p l r a b s t) :
    Cr Try.prog 59 #[.agg #[.int .i64 p, .int .i64 l, .int .i64 r, .int .i64 a, .int .i64 b, .int .i64 s, .bool lh, .int .i64 t]] ro
      (.tuple #[.agg #[.int .i64 p, .int .i64 l, .int .i64 r, .int .i64 a, .int .i64 b, .int .i64 s, .bool lh, .int .i64 t], .int .i64 0]) := by
  (refine Cr.of Try.func59 rfl rfl (fun F hF => ?_); simp only [Try.ntmps59, Try.results59, List.size_toArray, List.length_cons, List.length_nil, Nat.reduceAdd, Nat.reduceSub, Array.replicate_succ, Array.replicate_zero, List.push_toArray, List.append_toArray, List.nil_append, List.cons_append]; simp -implicitDefEqProofs (maxSteps := 1000000) only [go_sem, seval])
  subst hF
  repeat' (first | ((first | ((with_reducible refine NewK.intro fun g hg hn => ?_) <;> try simp only [own_none_iff] at hn) | ((with_reducible refine GuardB.split (fun hc => ?_) (fun hc => ?_)) <;> (have hc2 := hc; try simp only [beq_eq_false_iff_ne, beq_iff_eq, ne_eq, bne_iff_ne, bne_eq_false_iff_eq, decide_eq_true_eq, decide_eq_false_iff_not, Bool.not_true, Bool.not_false, Int.not_le, Int.not_lt] at hc2)) | ((with_reducible refine CondK.split (fun hc => ?_) (fun hc => ?_)) <;> (have hc2 := hc; try simp only [beq_eq_false_iff_ne, beq_iff_eq, ne_eq, bne_iff_ne, bne_eq_false_iff_eq, decide_eq_true_eq, decide_eq_false_iff_not, Bool.not_true, Bool.not_false, Int.not_le, Int.not_lt] at hc2)) | ((with_reducible refine PickK.split (fun hc => ?_) (fun hc => ?_)) <;> (have hc2 := hc; try simp only [beq_eq_false_iff_ne, beq_iff_eq, ne_eq, bne_iff_ne, bne_eq_false_iff_eq, decide_eq_true_eq, decide_eq_false_iff_not, Bool.not_true, Bool.not_false, Int.not_le, Int.not_lt] at hc2)) | (with_reducible refine dop_buildSlice ?_) | (with_reducible refine dop_build ?_) | ((with_reducible refine Cr.call (f := 64) (check_ok _ _ _ _ _ _ _ _ _ hv) ?_)) | (with_reducible refine CallV.of (f := 64) (check_ok _ _ _ _ _ _ _ _ _ hv) ni64 ?_) | ((with_reducible refine DDraw.told (id := 1) [] [.tmp 2] mo ?_ ?_); kernel_rfl) | ((with_reducible refine GuardD.split (fun hc => ?_) (fun hc => ?_)) <;> (have hc2 := hc; try simp only [beq_eq_false_iff_ne, beq_iff_eq, ne_eq, bne_iff_ne, bne_eq_false_iff_eq, decide_eq_true_eq, decide_eq_false_iff_not, Bool.not_true, Bool.not_false, Int.not_le, Int.not_lt] at hc2)) | (with_reducible refine stp_build ?_) | (with_reducible refine stp_buildSlice ?_) | (with_reducible refine stp_store ?_) | (with_reducible refine stp_ns ?_) | (with_reducible refine NsB.intro (fun h' ho K' hk => by simp -implicitDefEqProofs (maxSteps := 1000000) only [go_sem, seval, *] <;> exact hk) ?_) | (with_reducible refine WrB.intro _ (by simp -implicitDefEqProofs (maxSteps := 1000000) only [go_sem, seval, *]) (fun h' ho K' hk => by simp -implicitDefEqProofs (maxSteps := 1000000) only [go_sem, seval, *]; exact hk) ?_) | ((with_reducible refine DDraw.auto mo ?_ ?_); kernel_rfl)) <;> simp -implicitDefEqProofs (maxSteps := 1000000) only [go_sem, seval, *]) | (with_reducible refine bi_same ?_))

end Go.Proofs.Ytdhdfdaclbfkiaa
