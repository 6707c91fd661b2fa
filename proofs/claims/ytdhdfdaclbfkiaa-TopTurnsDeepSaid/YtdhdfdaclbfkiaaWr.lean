/-
  Walks. Conditions: none.
-/
import Derived.Test.YtdhdfdaclbfkiaaW10
set_option linter.unusedVariables false
set_option linter.unusedSimpArgs false
namespace Go.Proofs.Ytdhdfdaclbfkiaa
open Go.RowKit Go.SL
set_option maxHeartbeats 1000000
set_option maxRecDepth 1000000
attribute [local go_sem] i64w
attribute [local go_sem] dwp_eqGuardE dwp_eqGuardN rval_eqGuardE rval_eqGuardN
def ratN (a b : Int) : Int := a.tdiv (Int.gcd a b)
def ratD (a b : Int) : Int := b.tdiv (Int.gcd a b)
theorem ratio_ok (ro : Addr → Option Value) (a b : Int) (ha : -1000000000000000000 ≤ a ∧ a ≤ 1000000000000000000) (hb : 1 ≤ b ∧ b ≤ 1000000000000000000) :
    Cr Try.prog 61 #[.int .i64 a, .int .i64 b] ro (.agg #[.int .i64 (ratN a b), .int .i64 (ratD a b)]) := by
  have hg : Hold ((Int.gcd a b : Int) ≠ 0) := ⟨by have h : 0 < Int.gcd a b := Int.gcd_pos_of_ne_zero_right a (by omega); omega⟩
  have hgb : ((Int.gcd a b : Int) == 0) = false := by simpa using hg.out
  have hgp : ((Int.gcd a b : Int) = 0) = False := by simpa using hg.out
  have e1 : IntKind.i64.wrap (a.tdiv (Int.gcd a b)) = ratN a b := by
    have := tdiv_bd (a := a) (g := (Int.gcd a b : Int)) (B := 1000000000000000000) (by omega) (by omega) (by omega)
    rw [IntWalk.i64_in _ (by omega)]; rfl
  have e2 : IntKind.i64.wrap (b.tdiv (Int.gcd a b)) = ratD a b := by
    have := tdiv_bd (a := b) (g := (Int.gcd a b : Int)) (B := 1000000000000000000) (by omega) (by omega) (by omega)
    rw [IntWalk.i64_in _ (by omega)]; rfl
  have q1 := Hold.mk ha
  have q2 : Hold (-1000000000000000000 ≤ b ∧ b ≤ 1000000000000000000) := ⟨by omega⟩
  clear ha hb
  (refine Cr.of Try.func61 rfl rfl (fun F hF => ?_); simp only [Try.ntmps61, Try.results61, List.size_toArray, List.length_cons, List.length_nil, Nat.reduceAdd, Nat.reduceSub, Array.replicate_succ, Array.replicate_zero, List.push_toArray, List.append_toArray, List.nil_append, List.cons_append]; simp -implicitDefEqProofs (maxSteps := 1000000) only [go_sem, seval])
  subst hF
  repeat' (first | ((first | ((with_reducible refine NewK.intro fun g hg hn => ?_) <;> try simp only [own_none_iff] at hn) | ((with_reducible refine GuardB.split (fun hc => ?_) (fun hc => ?_)) <;> (have hc2 := hc; try simp only [beq_eq_false_iff_ne, beq_iff_eq, ne_eq, bne_iff_ne, bne_eq_false_iff_eq, decide_eq_true_eq, decide_eq_false_iff_not, Bool.not_true, Bool.not_false, Int.not_le, Int.not_lt] at hc2)) | ((with_reducible refine CondK.split (fun hc => ?_) (fun hc => ?_)) <;> (have hc2 := hc; try simp only [beq_eq_false_iff_ne, beq_iff_eq, ne_eq, bne_iff_ne, bne_eq_false_iff_eq, decide_eq_true_eq, decide_eq_false_iff_not, Bool.not_true, Bool.not_false, Int.not_le, Int.not_lt] at hc2)) | ((with_reducible refine PickK.split (fun hc => ?_) (fun hc => ?_)) <;> (have hc2 := hc; try simp only [beq_eq_false_iff_ne, beq_iff_eq, ne_eq, bne_iff_ne, bne_eq_false_iff_eq, decide_eq_true_eq, decide_eq_false_iff_not, Bool.not_true, Bool.not_false, Int.not_le, Int.not_lt] at hc2)) | (with_reducible refine dop_buildSlice ?_) | (with_reducible refine dop_build ?_) | ((with_reducible refine Cr.call (f := 106) (gcd_ok _ _ _ q1.out q2.out) ?_)) | (with_reducible refine CallV.of (f := 106) (gcd_ok _ _ _ q1.out q2.out) ni106 ?_) | ((with_reducible refine DDraw.told (id := 2) [] [.tmp 4] mo ?_ ?_); kernel_rfl) | ((with_reducible refine GuardD.split (fun hc => ?_) (fun hc => ?_)) <;> (have hc2 := hc; try simp only [beq_eq_false_iff_ne, beq_iff_eq, ne_eq, bne_iff_ne, bne_eq_false_iff_eq, decide_eq_true_eq, decide_eq_false_iff_not, Bool.not_true, Bool.not_false, Int.not_le, Int.not_lt] at hc2)) | (with_reducible refine stp_build ?_) | (with_reducible refine stp_buildSlice ?_) | (with_reducible refine stp_store ?_) | (with_reducible refine stp_ns ?_) | (with_reducible refine NsB.intro (fun h' ho K' hk => by simp -implicitDefEqProofs (maxSteps := 1000000) only [go_sem, seval, *] <;> exact hk) ?_) | (with_reducible refine WrB.intro _ (by simp -implicitDefEqProofs (maxSteps := 1000000) only [go_sem, seval, *]) (fun h' ho K' hk => by simp -implicitDefEqProofs (maxSteps := 1000000) only [go_sem, seval, *]; exact hk) (fun h' ho K' hk => by simp -implicitDefEqProofs (maxSteps := 1000000) only [go_sem, seval, *] at hk; exact hk) (fun h' ho hk => by simp -implicitDefEqProofs (maxSteps := 1000000) only [go_sem, seval, *] at hk <;> with_unfolding_all exact False.elim hk) ?_) | (with_reducible refine WrB.intro _ (by simp -implicitDefEqProofs (maxSteps := 1000000) only [go_sem, seval, *]) (fun h' ho K' hk => by simp -implicitDefEqProofs (maxSteps := 1000000) only [go_sem, seval, *]; exact hk) ?_) | ((with_reducible refine DDraw.auto mo ?_ ?_); kernel_rfl)) <;> simp -implicitDefEqProofs (maxSteps := 1000000) only [go_sem, seval, *]) | (with_reducible refine bi_same ?_))
theorem has_ok (ro : Addr → Option Value) (p l r a b s : Int) (lh : Bool) (t : Int) (g off n c : Nat) (hb : Hold (0 ≤ b ∧ b ≤ 200000)) (hs : (readI ro g off n).isSome = true) (hn : Hold (n < 2 ^ 63)) :
    Cr Try.prog 86 #[.agg #[.int .i64 p, .int .i64 l, .int .i64 r, .int .i64 a, .int .i64 b, .int .i64 s, .bool lh, .int .i64 t], .slice (some ⟨g, off, none⟩) n c] ro (.bool (allO (-b) a (readI ro g off n))) := by
  obtain ⟨xs, hx⟩ := Option.isSome_iff_exists.1 hs
  have e1 : IntKind.i64.wrap (0 - b) = -b := by have := hb.out; rw [IntWalk.i64_in _ (by omega)]; omega
  rw [hx]
  (refine Cr.of Try.func86 rfl rfl (fun F hF => ?_); simp only [Try.ntmps86, Try.results86, List.size_toArray, List.length_cons, List.length_nil, Nat.reduceAdd, Nat.reduceSub, Array.replicate_succ, Array.replicate_zero, List.push_toArray, List.append_toArray, List.nil_append, List.cons_append]; simp -implicitDefEqProofs (maxSteps := 1000000) only [go_sem, seval])
  refine NewK.intro fun g1 hg1 hn1 => ?_
  simp -implicitDefEqProofs (maxSteps := 1000000) only [go_sem, seval, e1, hg1, hn1]
  have hx' := readI_mono (fun ad u (e : ro ad = some u) => Hp.cell_ro (h := Hp.none_.set g1 (.cells #[.int .i64 p, .int .i64 l, .int .i64 r, .int .i64 a, .int .i64 b, .int .i64 s, .bool lh, .int .i64 t] 120)) (by rw [hF]; exact e)) hx
  refine Cr.call (within_ok _ _ _ _ _ _ _ (by rw [hx']; rfl) hn) ?_
  rw [hx']
  simp -implicitDefEqProofs (maxSteps := 1000000) only [go_sem, seval]
theorem width2_ok (ro : Addr → Option Value) (p l r a b s : Int) (lh : Bool) (t : Int) (y : Int) (hv : FormOk p l r a b s t) (hy : -b ≤ y ∧ y ≤ a) :
    Cr Try.prog 42 #[.agg #[.int .i64 p, .int .i64 l, .int .i64 r, .int .i64 a, .int .i64 b, .int .i64 s, .bool lh, .int .i64 t], .int .i64 y] ro
      (.tuple #[.agg #[.int .i64 (ratN (1000 * p - 2 * y * (l + r)) 2000), .int .i64 (ratD (1000 * p - 2 * y * (l + r)) 2000)], .int .i64 0]) := by
  obtain ⟨y1, y2⟩ := hy
  have hb : Hold (0 ≤ b ∧ b ≤ 200000) := ⟨hv.hb⟩
  have hp : Hold (0 ≤ p ∧ p ≤ 200000) := ⟨by have := hv.hp; omega⟩
  have hl := Hold.mk hv.hl
  have hr := Hold.mk hv.hr
  have hyb : Hold (-200000 ≤ y ∧ y ≤ 200000) := ⟨by have := hv.hb; have := hv.ha; omega⟩
  have hw : Hold (-1000000000000000000 ≤ 1000 * p - 2 * y * (l + r) ∧ 1000 * p - 2 * y * (l + r) ≤ 1000000000000000000) := ⟨by
    have h1 := hp.out
    have h2 := hl.out
    have h3 := hr.out
    have h4 := hyb.out
    have h5 := mul_bd (a := 2 * y) (b := l + r) (A := 400000) (B := 6000) (by omega) (by omega) (by omega) (by omega)
    omega⟩
  have hv := Hold.mk hv
  (refine Cr.of Try.func42 rfl rfl (fun F hF => ?_); simp only [Try.ntmps42, Try.results42, List.size_toArray, List.length_cons, List.length_nil, Nat.reduceAdd, Nat.reduceSub, Array.replicate_succ, Array.replicate_zero, List.push_toArray, List.append_toArray, List.nil_append, List.cons_append]; simp -implicitDefEqProofs (maxSteps := 1000000) only [go_sem, seval])
  subst hF
  repeat' (first | ((first | ((with_reducible refine NewK.intro fun g hg hn => ?_) <;> try simp only [own_none_iff] at hn) | ((with_reducible refine GuardB.split (fun hc => ?_) (fun hc => ?_)) <;> (have hc2 := hc; try simp only [beq_eq_false_iff_ne, beq_iff_eq, ne_eq, bne_iff_ne, bne_eq_false_iff_eq, decide_eq_true_eq, decide_eq_false_iff_not, Bool.not_true, Bool.not_false, Int.not_le, Int.not_lt] at hc2)) | ((with_reducible refine CondK.split (fun hc => ?_) (fun hc => ?_)) <;> (have hc2 := hc; try simp only [beq_eq_false_iff_ne, beq_iff_eq, ne_eq, bne_iff_ne, bne_eq_false_iff_eq, decide_eq_true_eq, decide_eq_false_iff_not, Bool.not_true, Bool.not_false, Int.not_le, Int.not_lt] at hc2)) | ((with_reducible refine PickK.split (fun hc => ?_) (fun hc => ?_)) <;> (have hc2 := hc; try simp only [beq_eq_false_iff_ne, beq_iff_eq, ne_eq, bne_iff_ne, bne_eq_false_iff_eq, decide_eq_true_eq, decide_eq_false_iff_not, Bool.not_true, Bool.not_false, Int.not_le, Int.not_lt] at hc2)) | (with_reducible refine dop_buildSlice ?_) | (with_reducible refine dop_build ?_) | ((with_reducible refine Cr.call (f := 59) (open_ok _ _ _ _ _ _ _ _ _ hv.out) ?_)) | (with_reducible refine CallV.of (f := 59) (open_ok _ _ _ _ _ _ _ _ _ hv.out) ni59 ?_) | ((with_reducible refine Cr.call (f := 86) (has_ok _ _ _ _ _ _ _ _ _ _ _ _ _ hb (by simp -implicitDefEqProofs (maxSteps := 1000000) only [go_sem, seval, *]) ⟨by decide⟩) ?_)) | (with_reducible refine CallV.of (f := 86) (has_ok _ _ _ _ _ _ _ _ _ _ _ _ _ hb (by simp -implicitDefEqProofs (maxSteps := 1000000) only [go_sem, seval, *]) ⟨by decide⟩) ni86 ?_) | ((with_reducible refine Cr.call (f := 87) (width_ok _ _ _ _ _ _ _ _ _ _ hp hl hr hyb) ?_)) | (with_reducible refine CallV.of (f := 87) (width_ok _ _ _ _ _ _ _ _ _ _ hp hl hr hyb) ni87 ?_) | ((with_reducible refine Cr.call (f := 61) (ratio_ok _ _ _ hw.out ⟨by decide, by decide⟩) ?_)) | (with_reducible refine CallV.of (f := 61) (ratio_ok _ _ _ hw.out ⟨by decide, by decide⟩) ni61 ?_) | ((with_reducible refine GuardD.split (fun hc => ?_) (fun hc => ?_)) <;> (have hc2 := hc; try simp only [beq_eq_false_iff_ne, beq_iff_eq, ne_eq, bne_iff_ne, bne_eq_false_iff_eq, decide_eq_true_eq, decide_eq_false_iff_not, Bool.not_true, Bool.not_false, Int.not_le, Int.not_lt] at hc2)) | (with_reducible refine stp_build ?_) | (with_reducible refine stp_buildSlice ?_) | (with_reducible refine stp_store ?_) | (with_reducible refine stp_ns ?_) | (with_reducible refine NsB.intro (fun h' ho K' hk => by simp -implicitDefEqProofs (maxSteps := 1000000) only [go_sem, seval, *] <;> exact hk) ?_) | (with_reducible refine WrB.intro _ (by simp -implicitDefEqProofs (maxSteps := 1000000) only [go_sem, seval, *]) (fun h' ho K' hk => by simp -implicitDefEqProofs (maxSteps := 1000000) only [go_sem, seval, *]; exact hk) (fun h' ho K' hk => by simp -implicitDefEqProofs (maxSteps := 1000000) only [go_sem, seval, *] at hk; exact hk) (fun h' ho hk => by simp -implicitDefEqProofs (maxSteps := 1000000) only [go_sem, seval, *] at hk <;> with_unfolding_all exact False.elim hk) ?_) | (with_reducible refine WrB.intro _ (by simp -implicitDefEqProofs (maxSteps := 1000000) only [go_sem, seval, *]) (fun h' ho K' hk => by simp -implicitDefEqProofs (maxSteps := 1000000) only [go_sem, seval, *]; exact hk) ?_) | ((with_reducible refine DDraw.auto mo ?_ ?_); kernel_rfl)) <;> simp -implicitDefEqProofs (maxSteps := 1000000) only [go_sem, seval, *]) | (with_reducible refine bi_same ?_))

end Go.Proofs.Ytdhdfdaclbfkiaa
