/-
  Walks. Conditions: none.
-/
import Derived.Test.YtdhhaglaikdpbaaB26
set_option linter.unusedVariables false
set_option linter.unusedSimpArgs false
namespace Go.Proofs.Ytdhhaglaikdpbaa
open Go.RowKit Go.SL
set_option maxHeartbeats 1000000
set_option maxRecDepth 1000000
attribute [local go_sem] i64w
attribute [local go_sem] dwp_eqGuardE dwp_eqGuardN rval_eqGuardE rval_eqGuardN
theorem inf_int : okInfo Try.prog 3 1 8 = true := by kernel_rfl
/-- For a friction of the thread: the least and the greatest friction of the head. -/
def lnA (ld th hd oh0 A0 A1 t : Int) : Int := fiA oh0 hd (1000 * ld + th * t) A0 A1
def lnB (ld th hd oh1 A0 A1 t : Int) : Int := fiB oh1 hd (1000 * ld + th * t) A0 A1
def lnG (ld th hd oh0 oh1 A0 A1 t : Int) : Bool := decide (lnA ld th hd oh0 A0 A1 t ≤ lnB ld th hd oh1 A0 A1 t)
theorem ne2 {a b : Nat} (h : a ≠ b) : a ≠ b ∧ b ≠ a := ⟨h, Ne.symm h⟩
theorem one_agg {x : Int} : ∀ y ∈ [Value.int .i64 x], notAgg y = true := by simp [notAgg]
def ranI : Int → Nat → List Int
  | _, 0 => []
  | x, n + 1 => x :: ranI (x + 1) n
theorem ranI_succ (x : Int) (n : Nat) : ranI x (n + 1) = ranI x n ++ [x + n] := by
  induction n generalizing x with
  | zero => simp [ranI]
  | succ n ih => rw [ranI, ih, ranI]; simp; omega
def knA (ld th hd ot0 ot1 oh0 oh1 st0 st1 sp0 sp1 yi0 yi1 t0 t1 f0 f1 : Int) : Int := knLo f1 t0 (armV ld th hd ot0 oh0)
def knB (ld th hd ot0 ot1 oh0 oh1 st0 st1 sp0 sp1 yi0 yi1 t0 t1 f0 f1 : Int) : Int := knHi f0 t1 (armV ld th hd ot1 oh1)
/-- The frictions of the thread that there can be. -/
def lnL (ld th hd ot0 ot1 oh0 oh1 st0 st1 sp0 sp1 yi0 yi1 t0 t1 f0 f1 : Int) : List Int := if knA ld th hd ot0 ot1 oh0 oh1 st0 st1 sp0 sp1 yi0 yi1 t0 t1 f0 f1 ≤ knB ld th hd ot0 ot1 oh0 oh1 st0 st1 sp0 sp1 yi0 yi1 t0 t1 f0 f1 then (ranI ot0 (ot1 - ot0 + 1).toNat).filter (lnG ld th hd oh0 oh1 (knA ld th hd ot0 ot1 oh0 oh1 st0 st1 sp0 sp1 yi0 yi1 t0 t1 f0 f1) (knB ld th hd ot0 ot1 oh0 oh1 st0 st1 sp0 sp1 yi0 yi1 t0 t1 f0 f1)) else []
theorem ranI_len (x : Int) (n : Nat) : (ranI x n).length = n := by
  induction n generalizing x with
  | zero => rfl
  | succ n ih => rw [ranI]; simp [ih]
def ILearn (ld th hd ot0 ot1 oh0 oh1 st0 st1 sp0 sp1 yi0 yi1 A0 A1 : Int) (N : Nat) (g6 g7 g9 g10 : Nat) (F : Fr) (k : Nat) (a : Act) (h : Hp) : Prop :=
  ∃ (j : Nat) (gd : List Int) (v12 v13 v14 : Value) (t : Int), Hold (j + k = N ∧ t = ot0 + j) ∧ Hold (gd = (ranI ot0 j).filter (lnG ld th hd oh0 oh1 A0 A1)) ∧ h.own g6 = some (.cells #[.int .i64 0, .int .i64 0] 23) ∧ h.own g7 = some (.cells #[.int .i64 0, .int .i64 0] 23) ∧ h.own g9 = some (.cells #[.int .i64 ld, .int .i64 th, .int .i64 hd, .int .i64 ot0, .int .i64 ot1, .int .i64 oh0, .int .i64 oh1, .int .i64 st0, .int .i64 st1, .int .i64 sp0, .int .i64 sp1, .int .i64 yi0, .int .i64 yi1] 102) ∧ h.own g10 = some (.cells #[.int .i64 A0, .int .i64 A1] 23) ∧ Own F h 3 1 v12 gd.length (ints gd) ∧ Own F h 3 1 v13 gd.length (ints (gd.map (lnA ld th hd oh0 A0 A1))) ∧ Own F h 3 1 v14 gd.length (ints (gd.map (lnB ld th hd oh1 A0 A1))) ∧ Hold (∀ x, x = g6 ∨ x = g7 ∨ x = g9 ∨ x = g10 → blk v12 ≠ some x ∧ blk v13 ≠ some x ∧ blk v14 ≠ some x) ∧ Hold ((∀ b, blk v12 = some b → blk v13 ≠ some b ∧ blk v14 ≠ some b) ∧ (∀ b, blk v13 = some b → blk v14 ≠ some b)) ∧ a = (fun x : Nat → Value => (⟨#[x 0, x 1, x 2, x 3, x 4, x 5, .pointer (some ⟨g6, 0, none⟩), .pointer (some ⟨g7, 0, none⟩), .int .i64 0, .pointer (some ⟨g9, 0, none⟩), .pointer (some ⟨g10, 0, none⟩), x 11, v12, v13, v14, .int .i64 t, x 16, x 17, x 18, x 19, x 20, x 21, x 22, x 23, x 24, x 25, x 26, x 27, x 28, x 29, x 30, x 31, x 32, x 33, x 34, x 35, x 36, x 37, x 38, x 39, x 40, x 41, x 42, x 43, x 44, x 45, x 46, x 47, x 48, x 49, x 50, x 51, x 52, x 53, x 54, x 55, x 56, x 57, x 58, x 59, x 60, x 61, x 62, x 63, x 64, x 65, x 66, x 67, x 68, x 69, x 70, x 71, x 72, x 73, x 74, x 75, x 76, x 77, x 78, x 79, x 80, x 81, x 82, x 83, x 84, x 85, x 86, x 87, x 88, x 89, x 90, x 91, x 92, x 93, x 94, x 95, x 96, x 97, x 98, x 99, x 100, x 101, x 102, x 103, x 104, x 105, x 106, x 107, x 108, x 109, x 110, x 111, x 112, x 113, x 114, x 115], []⟩ : Act)) (fun i => a.tmps.getD i undef)
set_option maxHeartbeats 8000000 in
theorem LearnG (ro : Addr → Option Value) (ld th hd ot0 ot1 oh0 oh1 st0 st1 sp0 sp1 yi0 yi1 t0 t1 f0 f1 : Int) (hv : BoltOk ld th hd ot0 ot1 oh0 oh1 st0 st1 sp0 sp1 yi0 yi1) (ht : 0 ≤ t0 ∧ t0 ≤ t1 ∧ t1 ≤ 10000000000000) (hf : 0 ≤ f0 ∧ f0 ≤ f1 ∧ f1 ≤ 100000000) :
    Cr Try.prog 31 #[.agg #[.int .i64 ld, .int .i64 th, .int .i64 hd, .int .i64 ot0, .int .i64 ot1, .int .i64 oh0, .int .i64 oh1, .int .i64 st0, .int .i64 st1, .int .i64 sp0, .int .i64 sp1, .int .i64 yi0, .int .i64 yi1], .agg #[.int .i64 t0, .int .i64 t1], .agg #[.int .i64 f0, .int .i64 f1]] ro (.tuple #[.agg #[.int .i64 ((lnL ld th hd ot0 ot1 oh0 oh1 st0 st1 sp0 sp1 yi0 yi1 t0 t1 f0 f1).headD 0), .int .i64 ((lnL ld th hd ot0 ot1 oh0 oh1 st0 st1 sp0 sp1 yi0 yi1 t0 t1 f0 f1).getLastD 0)], .agg #[.int .i64 (minL ((lnL ld th hd ot0 ot1 oh0 oh1 st0 st1 sp0 sp1 yi0 yi1 t0 t1 f0 f1).map (lnA ld th hd oh0 (knA ld th hd ot0 ot1 oh0 oh1 st0 st1 sp0 sp1 yi0 yi1 t0 t1 f0 f1) (knB ld th hd ot0 ot1 oh0 oh1 st0 st1 sp0 sp1 yi0 yi1 t0 t1 f0 f1)))), .int .i64 (maxL ((lnL ld th hd ot0 ot1 oh0 oh1 st0 st1 sp0 sp1 yi0 yi1 t0 t1 f0 f1).map (lnB ld th hd oh1 (knA ld th hd ot0 ot1 oh0 oh1 st0 st1 sp0 sp1 yi0 yi1 t0 t1 f0 f1) (knB ld th hd ot0 ot1 oh0 oh1 st0 st1 sp0 sp1 yi0 yi1 t0 t1 f0 f1))))], .int .i64 (if (lnL ld th hd ot0 ot1 oh0 oh1 st0 st1 sp0 sp1 yi0 yi1 t0 t1 f0 f1).isEmpty then 9 else 0)]) := by
  have hz : checkV ld th hd ot0 ot1 oh0 oh1 st0 st1 sp0 sp1 yi0 yi1 = 0 := by unfold checkV; rw [if_pos (boltB_iff.2 hv)]
  have s1 : spB 0 10000000000000 t0 t1 = true := spB_iff.2 (by omega)
  have s2 : spB 0 100000000 f0 f1 = true := spB_iff.2 (by omega)
  replace hv := Hold.mk hv
  replace ht := Hold.mk ht
  replace hf := Hold.mk hf
  (refine Cr.of Try.func31 rfl rfl (fun F hF => ?_); simp only [Try.ntmps31, Try.results31, List.size_toArray, List.length_cons, List.length_nil, Nat.reduceAdd, Nat.reduceSub, Array.replicate_succ, Array.replicate_zero, List.push_toArray, List.append_toArray, List.nil_append, List.cons_append]; simp -implicitDefEqProofs (maxSteps := 1000000) only [go_sem, seval])
  subst hF
  try simp -implicitDefEqProofs (maxSteps := 1000000) only [go_sem, seval, *]
  repeat' (first | ((first | ((with_reducible refine NewK.intro fun g hg hn => ?_) <;> try simp only [own_none_iff] at hn) | ((with_reducible refine GuardB.split (fun hc => ?_) (fun hc => ?_)) <;> (have hc2 := hc; try simp only [beq_eq_false_iff_ne, beq_iff_eq, ne_eq, bne_iff_ne, bne_eq_false_iff_eq, decide_eq_true_eq, decide_eq_false_iff_not, Bool.not_true, Bool.not_false, Int.not_le, Int.not_lt] at hc2)) | ((with_reducible refine CondK.split (fun hc => ?_) (fun hc => ?_)) <;> (have hc2 := hc; try simp only [beq_eq_false_iff_ne, beq_iff_eq, ne_eq, bne_iff_ne, bne_eq_false_iff_eq, decide_eq_true_eq, decide_eq_false_iff_not, Bool.not_true, Bool.not_false, Int.not_le, Int.not_lt] at hc2)) | ((with_reducible refine PickK.split (fun hc => ?_) (fun hc => ?_)) <;> (have hc2 := hc; try simp only [beq_eq_false_iff_ne, beq_iff_eq, ne_eq, bne_iff_ne, bne_eq_false_iff_eq, decide_eq_true_eq, decide_eq_false_iff_not, Bool.not_true, Bool.not_false, Int.not_le, Int.not_lt] at hc2)) | (with_reducible refine dop_buildSlice ?_) | (with_reducible refine dop_build ?_) | ((with_reducible refine Cr.call (f := 46) (open0B _ _ _ _ _ _ _ _ _ _ _ _ _ _) ?_)) | (with_reducible refine CallV.of (f := 46) (open0B _ _ _ _ _ _ _ _ _ _ _ _ _ _) ni46 ?_) | ((with_reducible refine Cr.call (f := 62) (isTorqueB _ _ _) ?_)) | (with_reducible refine CallV.of (f := 62) (isTorqueB _ _ _) ni62 ?_) | ((with_reducible refine Cr.call (f := 48) (isForceB _ _ _) ?_)) | (with_reducible refine CallV.of (f := 48) (isForceB _ _ _) ni48 ?_) | ((with_reducible refine Cr.call (f := 57) (arms_ok _ _ _ _ _ _ _ _ _ _ _ _ _ _ hv.out) ?_)) | (with_reducible refine CallV.of (f := 57) (arms_ok _ _ _ _ _ _ _ _ _ _ _ _ _ _ hv.out) ni57 ?_) | ((with_reducible refine Cr.call (f := 63) (known_ok _ _ _ _ _ _ _ ht.out hf.out) ?_)) | (with_reducible refine CallV.of (f := 63) (known_ok _ _ _ _ _ _ _ ht.out hf.out) ni63 ?_) | ((with_reducible refine DDraw.told (id := 14) [] [] mo ?_ ?_); kernel_rfl) | ((with_reducible refine DDraw.told (id := 16) [] [.tmp 12, .tmp 13, .tmp 14] mo ?_ ?_); kernel_rfl) | ((with_reducible refine DDraw.told (id := 18) [2, 3] [] mo ?_ ?_); kernel_rfl) | ((with_reducible refine DDraw.told (id := 19) [] [.tmp 6, .tmp 7] mo ?_ ?_); kernel_rfl) | ((with_reducible refine DDraw.told (id := 3) [3, 4] [] mo ?_ ?_); kernel_rfl) | ((with_reducible refine DDraw.told (id := 6) [2, 3] [] mo ?_ ?_); kernel_rfl) | ((with_reducible refine DDraw.told (id := 7) [] [] mo ?_ ?_); kernel_rfl) | ((with_reducible refine DDraw.told (id := 9) [2, 3] [] mo ?_ ?_); kernel_rfl) | ((with_reducible refine GuardD.split (fun hc => ?_) (fun hc => ?_)) <;> (have hc2 := hc; try simp only [beq_eq_false_iff_ne, beq_iff_eq, ne_eq, bne_iff_ne, bne_eq_false_iff_eq, decide_eq_true_eq, decide_eq_false_iff_not, Bool.not_true, Bool.not_false, Int.not_le, Int.not_lt] at hc2)) | (with_reducible refine stp_build ?_) | (with_reducible refine stp_buildSlice ?_) | (with_reducible refine stp_store ?_) | (with_reducible refine stp_ns ?_) | (with_reducible refine NsB.intro (fun h' ho K' hk => by simp -implicitDefEqProofs (maxSteps := 1000000) only [go_sem, seval, *] <;> exact hk) ?_) | (with_reducible refine WrB.intro _ (by simp -implicitDefEqProofs (maxSteps := 1000000) only [go_sem, seval, *]) (fun h' ho K' hk => by simp -implicitDefEqProofs (maxSteps := 1000000) only [go_sem, seval, *]; exact hk) ?_) | ((with_reducible refine DDraw.auto mo ?_ ?_); kernel_rfl)) <;> simp -implicitDefEqProofs (maxSteps := 1000000) only [go_sem, seval, *]) | (with_reducible refine bi_same ?_))
  · rename_i g3 hg3 hn3 g4 hg4 hn4 g5 hg5 hn5 g6 hg6 hn6 g7 hg7 hn7 g9 hg9 hn9
    have hl : lnL ld th hd ot0 ot1 oh0 oh1 st0 st1 sp0 sp1 yi0 yi1 t0 t1 f0 f1 = [] := by unfold lnL; rw [if_neg]; simpa [knA, knB] using hc
    rw [hl]; rfl
  rename_i g3 hg3 hn3 g4 hg4 hn4 g5 hg5 hn5 g6 hg6 hn6 g7 hg7 hn7 g9 hg9 hn9
  have hA : knLo f1 t0 (armV ld th hd ot0 oh0) ≤ knHi f0 t1 (armV ld th hd ot1 oh1) := by simpa using hc
  have hL : lnL ld th hd ot0 ot1 oh0 oh1 st0 st1 sp0 sp1 yi0 yi1 t0 t1 f0 f1 = (ranI ot0 (ot1 - ot0 + 1).toNat).filter (lnG ld th hd oh0 oh1 (knA ld th hd ot0 ot1 oh0 oh1 st0 st1 sp0 sp1 yi0 yi1 t0 t1 f0 f1) (knB ld th hd ot0 ot1 oh0 oh1 st0 st1 sp0 sp1 yi0 yi1 t0 t1 f0 f1)) := by unfold lnL; rw [if_pos (show knA ld th hd ot0 ot1 oh0 oh1 st0 st1 sp0 sp1 yi0 yi1 t0 t1 f0 f1 ≤ knB ld th hd ot0 ot1 oh0 oh1 st0 st1 sp0 sp1 yi0 yi1 t0 t1 f0 f1 from hA)]
  have kA : knA ld th hd ot0 ot1 oh0 oh1 st0 st1 sp0 sp1 yi0 yi1 t0 t1 f0 f1 = knLo f1 t0 (armV ld th hd ot0 oh0) := rfl
  have kB : knB ld th hd ot0 ot1 oh0 oh1 st0 st1 sp0 sp1 yi0 yi1 t0 t1 f0 f1 = knHi f0 t1 (armV ld th hd ot1 oh1) := rfl
  rw [hL, kA, kB]
  have hAb : -100000000000000000 ≤ knLo f1 t0 (armV ld th hd ot0 oh0) ∧ knLo f1 t0 (armV ld th hd ot0 oh0) ≤ 100000000000000000 := by
    have a0 := arm_bd ld th hd ot0 oh0 hv.out.hl hv.out.ht hv.out.hh (by have := hv.out.ho; omega) (by have := hv.out.hp; omega)
    have d2 := ediv_nn (a := 1000 * t0) (b := f1 + 1) (by have := ht.out; omega) (by have := hf.out; omega)
    have := ht.out
    unfold knLo; omega
  have hBb : -100000000000000000 ≤ knHi f0 t1 (armV ld th hd ot1 oh1) ∧ knHi f0 t1 (armV ld th hd ot1 oh1) ≤ 100000000000000000 := by
    have a1 := arm_bd ld th hd ot1 oh1 hv.out.hl hv.out.ht hv.out.hh (by have := hv.out.ho; omega) (by have := hv.out.hp; omega)
    unfold knHi
    split
    · have d2 := ediv_nn (a := 1000 * t1) (b := f0) (by have := ht.out; omega) (by omega)
      omega
    · omega
  clear hL kA kB hA
  generalize knLo f1 t0 (armV ld th hd ot0 oh0) = A0 at *
  generalize knHi f0 t1 (armV ld th hd ot1 oh1) = A1 at *
  have ho := hv.out.ho
  generalize hgg : g = g10 at *
  clear hgg
  refine DLoop.ind (ILearn ld th hd ot0 ot1 oh0 oh1 st0 st1 sp0 sp1 yi0 yi1 A0 A1 (ot1 - ot0 + 1).toNat g6 g7 g9 g10 F) (ot1 - ot0 + 1).toNat ⟨0, [], .slice none 0 0, .slice none 0 0, .slice none 0 0, ot0, ⟨by omega, by simp⟩, ⟨rfl⟩, (by simp -implicitDefEqProofs (maxSteps := 1000000) only [go_sem, seval, *]), (by simp -implicitDefEqProofs (maxSteps := 1000000) only [go_sem, seval, *]), (by simp -implicitDefEqProofs (maxSteps := 1000000) only [go_sem, seval, *]), (by simp -implicitDefEqProofs (maxSteps := 1000000) only [go_sem, seval, *]), Own.nil, Own.nil, Own.nil, ⟨fun x hx => by simp [blk]⟩, ⟨by simp [blk]⟩, (by kernel_rfl)⟩ ?_
  (rintro k a h ⟨j, gd, v12, v13, v14, t, fa0, fa1, fa2, fa3, fa4, fa5, fa6, fa7, fa8, fa9, fa10, ha⟩; generalize (fun i => Array.getD a.tmps i undef) = x at ha; dsimp only at ha; subst ha)
  have p12 := fa6.nblk
  have p13 := fa7.nblk
  have p14 := fa8.nblk
  have w6 : ∀ b, h.own b = none → ¬ g6 = b := fun b hb e => by subst e; rw [fa2] at hb; cases hb
  have w7 : ∀ b, h.own b = none → ¬ g7 = b := fun b hb e => by subst e; rw [fa3] at hb; cases hb
  have w9 : ∀ b, h.own b = none → ¬ g9 = b := fun b hb e => by subst e; rw [fa4] at hb; cases hb
  have w10 : ∀ b, h.own b = none → ¬ g10 = b := fun b hb e => by subst e; rw [fa5] at hb; cases hb
  have q6 := fa9.out g6 (by simp)
  have q7 := fa9.out g7 (by simp)
  have q9 := fa9.out g9 (by simp)
  have q10 := fa9.out g10 (by simp)
  simp -implicitDefEqProofs (maxSteps := 1000000) only [go_sem, seval, *]
  refine CondK.split (fun hc => ?_) (fun hc => ?_)
  · have p0 := fa0.out
    have hle : t ≤ ot1 := by simpa using hc
    have htb := hv.out.ht
    have hlb := hv.out.hl
    have m1 := mul_bd (a := th) (b := t) (A := 100000) (B := 1000) (by omega) (by omega) (by omega) (by omega)
    have m2 : 0 ≤ th * t := Int.mul_nonneg (by omega) (by omega)
    have e1 : IntKind.i64.wrap (th * t) = th * t := IntWalk.i64_in _ (by omega)
    have e2 : IntKind.i64.wrap (1000 * ld + th * t) = 1000 * ld + th * t := IntWalk.i64_in _ (by omega)
    have e3 : IntKind.i64.wrap (t + 1) = t + 1 := by rw [IntWalk.i64_in _ (by omega)]
    have z1 : Hold (0 ≤ hd ∧ hd ≤ 100000) := ⟨hv.out.hh⟩
    have z2 : Hold (0 ≤ 1000 * ld + th * t ∧ 1000 * ld + th * t ≤ 10000000000) := ⟨by omega⟩
    have z3 := Hold.mk hAb
    have z4 := Hold.mk hBb
    have y1 : fiA oh0 hd (1000 * ld + th * t) A0 A1 = lnA ld th hd oh0 A0 A1 t := rfl
    have y2 : fiB oh1 hd (1000 * ld + th * t) A0 A1 = lnB ld th hd oh1 A0 A1 t := rfl
    generalize hTA : 1000 * ld + th * t = ta at *
    generalize hTL : lnA ld th hd oh0 A0 A1 t = la at *
    generalize hTB : lnB ld th hd oh1 A0 A1 t = lb at *
    have hleH := Hold.mk hle
    clear p0 hle htb hlb m1 m2 hAb hBb ho s1 s2 hz hg3 hn3 hg4 hn4 hg5 hn5
    simp -implicitDefEqProofs (maxSteps := 1000000) only [go_sem, seval, *]
    repeat' (first | ((first | ((with_reducible refine NewK.intro fun g hg hn => ?_) <;> try simp only [own_none_iff] at hn) | ((with_reducible refine GuardB.split (fun hc => ?_) (fun hc => ?_)) <;> (have hc2 := hc; try simp only [beq_eq_false_iff_ne, beq_iff_eq, ne_eq, bne_iff_ne, bne_eq_false_iff_eq, decide_eq_true_eq, decide_eq_false_iff_not, Bool.not_true, Bool.not_false, Int.not_le, Int.not_lt] at hc2)) | ((with_reducible refine CondK.split (fun hc => ?_) (fun hc => ?_)) <;> (have hc2 := hc; try simp only [beq_eq_false_iff_ne, beq_iff_eq, ne_eq, bne_iff_ne, bne_eq_false_iff_eq, decide_eq_true_eq, decide_eq_false_iff_not, Bool.not_true, Bool.not_false, Int.not_le, Int.not_lt] at hc2)) | ((with_reducible refine PickK.split (fun hc => ?_) (fun hc => ?_)) <;> (have hc2 := hc; try simp only [beq_eq_false_iff_ne, beq_iff_eq, ne_eq, bne_iff_ne, bne_eq_false_iff_eq, decide_eq_true_eq, decide_eq_false_iff_not, Bool.not_true, Bool.not_false, Int.not_le, Int.not_lt] at hc2)) | (with_reducible refine dop_buildSlice ?_) | (with_reducible refine dop_build ?_) | ((with_reducible refine Cr.call (f := 54) (blead_ok _ _ _ _ _ _ _ _ _ _ _ _ _ _ hv.out) ?_)) | (with_reducible refine CallV.of (f := 54) (blead_ok _ _ _ _ _ _ _ _ _ _ _ _ _ _ hv.out) ni54 ?_) | ((with_reducible refine Cr.call (f := 64) (fits_ok _ _ _ _ _ _ _ z1.out z2.out z3.out z4.out) ?_)) | (with_reducible refine CallV.of (f := 64) (fits_ok _ _ _ _ _ _ _ z1.out z2.out z3.out z4.out) ni64 ?_) | ((with_reducible refine DDraw.told (id := 14) [] [] mo ?_ ?_); kernel_rfl) | ((with_reducible refine DDraw.told (id := 16) [] [.tmp 12, .tmp 13, .tmp 14] mo ?_ ?_); kernel_rfl) | ((with_reducible refine DDraw.told (id := 18) [2, 3] [] mo ?_ ?_); kernel_rfl) | ((with_reducible refine DDraw.told (id := 19) [] [.tmp 6, .tmp 7] mo ?_ ?_); kernel_rfl) | ((with_reducible refine DDraw.told (id := 3) [3, 4] [] mo ?_ ?_); kernel_rfl) | ((with_reducible refine DDraw.told (id := 6) [2, 3] [] mo ?_ ?_); kernel_rfl) | ((with_reducible refine DDraw.told (id := 7) [] [] mo ?_ ?_); kernel_rfl) | ((with_reducible refine DDraw.told (id := 9) [2, 3] [] mo ?_ ?_); kernel_rfl) | ((with_reducible refine GuardD.split (fun hc => ?_) (fun hc => ?_)) <;> (have hc2 := hc; try simp only [beq_eq_false_iff_ne, beq_iff_eq, ne_eq, bne_iff_ne, bne_eq_false_iff_eq, decide_eq_true_eq, decide_eq_false_iff_not, Bool.not_true, Bool.not_false, Int.not_le, Int.not_lt] at hc2)) | (with_reducible refine stp_build ?_) | (with_reducible refine stp_buildSlice ?_) | (with_reducible refine stp_store ?_) | (with_reducible refine stp_ns ?_) | (with_reducible refine NsB.intro (fun h' ho K' hk => by simp -implicitDefEqProofs (maxSteps := 1000000) only [go_sem, seval, *] <;> exact hk) ?_) | (with_reducible refine WrB.intro _ (by simp -implicitDefEqProofs (maxSteps := 1000000) only [go_sem, seval, *]) (fun h' ho K' hk => by simp -implicitDefEqProofs (maxSteps := 1000000) only [go_sem, seval, *]; exact hk) ?_) | ((with_reducible refine DDraw.auto mo ?_ ?_); kernel_rfl)) <;> simp -implicitDefEqProofs (maxSteps := 1000000) only [go_sem, seval, *]) | (with_reducible refine bi_same ?_))
    · rename_i g16 hg16 hn16
      have hG : lnG ld th hd oh0 oh1 A0 A1 t = true := by unfold lnG; rw [← hTL, ← hTB] at hc2; simpa [lnA, lnB, hTA] using hc2
      have hlen : gd.length ≤ 1001 := by
        have h1 : gd.length ≤ (ranI ot0 j).length := by rw [fa1.out]; exact List.length_filter_le _ _
        have h2 := ranI_len ot0 j
        have h3 := fa0.out
        have h4 := hv.out.ho
        omega
      have d1 := fa10.out
      have o12 := (fa6.other (ob := .cells #[.int .i64 la, .int .i64 lb] 23) (p12 g16 hn16)).other (ob := .cells #[.int .i64 t] 3) (p12 g hn.2.2)
      have o13 := (fa7.other (ob := .cells #[.int .i64 la, .int .i64 lb] 23) (p13 g16 hn16)).other (ob := .cells #[.int .i64 t] 3) (p13 g hn.2.2)
      have o14 := (fa8.other (ob := .cells #[.int .i64 la, .int .i64 lb] 23) (p14 g16 hn16)).other (ob := .cells #[.int .i64 t] 3) (p14 g hn.2.2)
      refine AppD.draw Try.underlying55 inf_int (by decide) (by decide) o12 (ys := [.int .i64 t]) (by simp -implicitDefEqProofs (maxSteps := 1000000) only [go_sem, seval, *]) one_agg (by omega) (fun b hb => dropV_none (.inr (dropV_none (.inr (dropV_none (.inl hb)))))) fun w12 gA obA hA bA r12 => ?_
      have n13 := fresh_blk hA o13 (fun b hb => (d1.1 b hb).1)
      have n14 := fresh_blk hA o14 (fun b hb => (d1.1 b hb).2)
      have r13 := o13.other (ob := obA) n13
      have r14 := o14.other (ob := obA) n14
      have a6 := ne2 (fresh_ne (x := g6) hA q6.1 (by simp -implicitDefEqProofs (maxSteps := 1000000) only [go_sem, seval, *]; rfl))
      have a7 := ne2 (fresh_ne (x := g7) hA q7.1 (by simp -implicitDefEqProofs (maxSteps := 1000000) only [go_sem, seval, *]; rfl))
      have a9 := ne2 (fresh_ne (x := g9) hA q9.1 (by simp -implicitDefEqProofs (maxSteps := 1000000) only [go_sem, seval, *]; rfl))
      have a10 := ne2 (fresh_ne (x := g10) hA q10.1 (by simp -implicitDefEqProofs (maxSteps := 1000000) only [go_sem, seval, *]; rfl))
      simp -implicitDefEqProofs (maxSteps := 1000000) only [go_sem, seval, *]
      refine stp_buildSlice ?_
      simp -implicitDefEqProofs (maxSteps := 1000000) only [go_sem, seval, *]
      refine NewK.intro fun gB hgB hnB => ?_
      have s12 := r12.other (ob := .cells #[.int .i64 la] 3) (r12.nblk gB hnB)
      have s13 := r13.other (ob := .cells #[.int .i64 la] 3) (r13.nblk gB hnB)
      have s14 := r14.other (ob := .cells #[.int .i64 la] 3) (r14.nblk gB hnB)
      simp only [own_none_iff] at hnB
      try simp -implicitDefEqProofs (maxSteps := 1000000) only [go_sem, seval, *]
      refine AppD.draw Try.underlying55 inf_int (by decide) (by decide) s13 (ys := [.int .i64 la]) (by simp -implicitDefEqProofs (maxSteps := 1000000) only [go_sem, seval, *]) one_agg (by omega) (fun b hb => dropV_none (.inr (dropV_none (.inl hb)))) fun w13 gC obC hC bC t13 => ?_
      have m12 := fresh_blk hC s12 (fun b hb hb2 => by rw [bA] at hb2; cases hb2; exact n13 hb)
      have m14 := fresh_blk hC s14 (fun b hb => d1.2 b hb)
      have t12 := s12.other (ob := obC) m12
      have t14 := s14.other (ob := obC) m14
      have c6 := ne2 (fresh_ne (x := g6) hC q6.2.1 (by simp -implicitDefEqProofs (maxSteps := 1000000) only [go_sem, seval, *]; rfl))
      have c7 := ne2 (fresh_ne (x := g7) hC q7.2.1 (by simp -implicitDefEqProofs (maxSteps := 1000000) only [go_sem, seval, *]; rfl))
      have c9 := ne2 (fresh_ne (x := g9) hC q9.2.1 (by simp -implicitDefEqProofs (maxSteps := 1000000) only [go_sem, seval, *]; rfl))
      have c10 := ne2 (fresh_ne (x := g10) hC q10.2.1 (by simp -implicitDefEqProofs (maxSteps := 1000000) only [go_sem, seval, *]; rfl))
      simp -implicitDefEqProofs (maxSteps := 1000000) only [go_sem, seval, *]
      refine stp_buildSlice ?_
      simp -implicitDefEqProofs (maxSteps := 1000000) only [go_sem, seval, *]
      refine NewK.intro fun gD hgD hnD => ?_
      have u12 := t12.other (ob := .cells #[.int .i64 lb] 3) (t12.nblk gD hnD)
      have u13 := t13.other (ob := .cells #[.int .i64 lb] 3) (t13.nblk gD hnD)
      have u14 := t14.other (ob := .cells #[.int .i64 lb] 3) (t14.nblk gD hnD)
      simp only [own_none_iff] at hnD
      try simp -implicitDefEqProofs (maxSteps := 1000000) only [go_sem, seval, *]
      refine AppD.draw Try.underlying55 inf_int (by decide) (by decide) u14 (ys := [.int .i64 lb]) (by simp -implicitDefEqProofs (maxSteps := 1000000) only [go_sem, seval, *]) one_agg (by omega) (fun b hb => dropV_none (.inl hb)) fun w14 gE obE hE bE v14' => ?_
      have k12 := fresh_blk hE u12 (fun b hb hb2 => by rw [bA] at hb2; cases hb2; exact n14 hb)
      have k13 := fresh_blk hE u13 (fun b hb hb2 => by rw [bC] at hb2; cases hb2; exact m14 hb)
      have v12' := u12.other (ob := obE) k12
      have v13' := u13.other (ob := obE) k13
      have e6 := ne2 (fresh_ne (x := g6) hE q6.2.2 (by simp -implicitDefEqProofs (maxSteps := 1000000) only [go_sem, seval, *]; rfl))
      have e7 := ne2 (fresh_ne (x := g7) hE q7.2.2 (by simp -implicitDefEqProofs (maxSteps := 1000000) only [go_sem, seval, *]; rfl))
      have e9 := ne2 (fresh_ne (x := g9) hE q9.2.2 (by simp -implicitDefEqProofs (maxSteps := 1000000) only [go_sem, seval, *]; rfl))
      have e10 := ne2 (fresh_ne (x := g10) hE q10.2.2 (by simp -implicitDefEqProofs (maxSteps := 1000000) only [go_sem, seval, *]; rfl))
      simp -implicitDefEqProofs (maxSteps := 1000000) only [go_sem, seval, *]
      have p0 := fa0.out
      have p1 := hleH.out
      refine LoopK.intro (k - 1) (by omega) ⟨j + 1, gd ++ [t], w12, w13, w14, t + 1, ⟨by omega, by omega⟩, ⟨?_⟩, (by simp -implicitDefEqProofs (maxSteps := 1000000) only [go_sem, seval, *]), (by simp -implicitDefEqProofs (maxSteps := 1000000) only [go_sem, seval, *]), (by simp -implicitDefEqProofs (maxSteps := 1000000) only [go_sem, seval, *]), (by simp -implicitDefEqProofs (maxSteps := 1000000) only [go_sem, seval, *]), ?_, ?_, ?_, ⟨?_⟩, ⟨?_, ?_⟩, (by kernel_rfl)⟩
      · rw [fa1.out, ranI_succ, List.filter_append, ← p0.2]
        simp [List.filter, hG]
      · rw [List.length_append]; rw [ints_snoc]; exact v12'
      · rw [List.length_append, List.map_append]; show Own F _ _ 1 _ _ (ints (_ ++ [lnA ld th hd oh0 A0 A1 t])); rw [ints_snoc, hTL]; simpa using v13'
      · rw [List.length_append, List.map_append]; show Own F _ _ 1 _ _ (ints (_ ++ [lnB ld th hd oh1 A0 A1 t])); rw [ints_snoc, hTB]; simpa using v14'
      · rintro x (rfl | rfl | rfl | rfl) <;> (rw [bA, bC, bE]; simp_all)
      · intro b hb
        rw [bA] at hb
        cases hb
        exact ⟨fun h1 => by rw [bC] at h1; cases h1; exact m12 bA, fun h1 => by rw [bE] at h1; cases h1; exact k12 bA⟩
      · intro b hb h1
        rw [bC] at hb
        rw [bE] at h1
        cases hb
        cases h1
        exact k13 bC
    · rename_i g16 hg16 hn16
      have p0 := fa0.out
      have p1 := hleH.out
      have hG : lnG ld th hd oh0 oh1 A0 A1 t = false := by unfold lnG; rw [← hTL, ← hTB] at hc2; simpa [lnA, lnB, hTA] using hc2
      refine LoopK.intro (k - 1) (by omega) ⟨j + 1, gd, v12, v13, v14, t + 1, ⟨by omega, by omega⟩, ⟨?_⟩, (by simp -implicitDefEqProofs (maxSteps := 1000000) only [go_sem, seval, *]), (by simp -implicitDefEqProofs (maxSteps := 1000000) only [go_sem, seval, *]), (by simp -implicitDefEqProofs (maxSteps := 1000000) only [go_sem, seval, *]), (by simp -implicitDefEqProofs (maxSteps := 1000000) only [go_sem, seval, *]), fa6.other (p12 _ hn), fa7.other (p13 _ hn), fa8.other (p14 _ hn), fa9, fa10, (by kernel_rfl)⟩
      rw [fa1.out, ranI_succ, List.filter_append, ← p0.2]
      simp [List.filter, hG]
  · have hgt : ot1 < t := by simpa using hc
    have p0 := fa0.out
    have hN : j = (ot1 - ot0 + 1).toNat := by omega
    have hgd := fa1.out
    rw [hN] at hgd
    rw [← hgd]
    clear hgd hN p0
    cases gd with
    | nil =>
      obtain ⟨p, cap, e12⟩ := fa6.len
      subst e12
      simp -implicitDefEqProofs (maxSteps := 1000000) only [go_sem, seval, *]
      repeat' (first | ((first | ((with_reducible refine NewK.intro fun g hg hn => ?_) <;> try simp only [own_none_iff] at hn) | ((with_reducible refine GuardB.split (fun hc => ?_) (fun hc => ?_)) <;> (have hc2 := hc; try simp only [beq_eq_false_iff_ne, beq_iff_eq, ne_eq, bne_iff_ne, bne_eq_false_iff_eq, decide_eq_true_eq, decide_eq_false_iff_not, Bool.not_true, Bool.not_false, Int.not_le, Int.not_lt] at hc2)) | ((with_reducible refine CondK.split (fun hc => ?_) (fun hc => ?_)) <;> (have hc2 := hc; try simp only [beq_eq_false_iff_ne, beq_iff_eq, ne_eq, bne_iff_ne, bne_eq_false_iff_eq, decide_eq_true_eq, decide_eq_false_iff_not, Bool.not_true, Bool.not_false, Int.not_le, Int.not_lt] at hc2)) | ((with_reducible refine PickK.split (fun hc => ?_) (fun hc => ?_)) <;> (have hc2 := hc; try simp only [beq_eq_false_iff_ne, beq_iff_eq, ne_eq, bne_iff_ne, bne_eq_false_iff_eq, decide_eq_true_eq, decide_eq_false_iff_not, Bool.not_true, Bool.not_false, Int.not_le, Int.not_lt] at hc2)) | (with_reducible refine dop_buildSlice ?_) | (with_reducible refine dop_build ?_) | ((with_reducible refine DDraw.told (id := 14) [] [] mo ?_ ?_); kernel_rfl) | ((with_reducible refine DDraw.told (id := 16) [] [.tmp 12, .tmp 13, .tmp 14] mo ?_ ?_); kernel_rfl) | ((with_reducible refine DDraw.told (id := 18) [2, 3] [] mo ?_ ?_); kernel_rfl) | ((with_reducible refine DDraw.told (id := 19) [] [.tmp 6, .tmp 7] mo ?_ ?_); kernel_rfl) | ((with_reducible refine DDraw.told (id := 3) [3, 4] [] mo ?_ ?_); kernel_rfl) | ((with_reducible refine DDraw.told (id := 6) [2, 3] [] mo ?_ ?_); kernel_rfl) | ((with_reducible refine DDraw.told (id := 7) [] [] mo ?_ ?_); kernel_rfl) | ((with_reducible refine DDraw.told (id := 9) [2, 3] [] mo ?_ ?_); kernel_rfl) | ((with_reducible refine GuardD.split (fun hc => ?_) (fun hc => ?_)) <;> (have hc2 := hc; try simp only [beq_eq_false_iff_ne, beq_iff_eq, ne_eq, bne_iff_ne, bne_eq_false_iff_eq, decide_eq_true_eq, decide_eq_false_iff_not, Bool.not_true, Bool.not_false, Int.not_le, Int.not_lt] at hc2)) | (with_reducible refine stp_build ?_) | (with_reducible refine stp_buildSlice ?_) | (with_reducible refine stp_store ?_) | (with_reducible refine stp_ns ?_) | (with_reducible refine NsB.intro (fun h' ho K' hk => by simp -implicitDefEqProofs (maxSteps := 1000000) only [go_sem, seval, *] <;> exact hk) ?_) | (with_reducible refine WrB.intro _ (by simp -implicitDefEqProofs (maxSteps := 1000000) only [go_sem, seval, *]) (fun h' ho K' hk => by simp -implicitDefEqProofs (maxSteps := 1000000) only [go_sem, seval, *]; exact hk) ?_) | ((with_reducible refine DDraw.auto mo ?_ ?_); kernel_rfl)) <;> simp -implicitDefEqProofs (maxSteps := 1000000) only [go_sem, seval, *]) | (with_reducible refine bi_same ?_))
      all_goals rfl
    | cons y r =>
      rcases fa6.2 with ⟨_, hz⟩ | ⟨ga, ca, ta, e12, hga, oa, _, _⟩
      · simp at hz
      obtain ⟨gb, cb, e13, rb⟩ := ((fa7.drop q6.2.1).drop q7.2.1).some (by simp)
      obtain ⟨gc, cc, e14, rc⟩ := ((fa8.drop q6.2.2).drop q7.2.2).some (by simp)
      have na6 : ga ≠ g6 := fun e => q6.1 (by rw [e12, e]; rfl)
      have na7 : ga ≠ g7 := fun e => q7.1 (by rw [e12, e]; rfl)
      rw [List.map_cons] at rb rc
      have ib := Hold.mk (readI_ints rb)
      have ic := Hold.mk (readI_ints rc)
      rw [Nat.mul_one] at ib ic
      have eA : (ints (y :: r) ++ ta)[0]? = some (.int .i64 ((y :: r).headD 0)) := rfl
      have eB : (ints (y :: r) ++ ta)[((((y :: r).length : Nat) : Int) - 1).toNat]? = some (.int .i64 ((y :: r).getLastD 0)) := by
        have e : ((((y :: r).length : Nat) : Int) - 1).toNat = r.length := by simp
        rw [e, List.getElem?_append_left (by simp [ints])]
        simp only [ints, List.getElem?_map]
        have h2 : (y :: r)[r.length]? = some ((y :: r).getLastD 0) := by
          rw [List.getLastD_eq_getLast?, List.getLast?_eq_getElem?]
          simp
        rw [h2]; rfl
      have hlen2 : (y :: r).length ≤ 1001 := by
        have h1 : (y :: r).length ≤ (ranI ot0 j).length := by rw [fa1.out]; exact List.length_filter_le _ _
        have h2 := ranI_len ot0 j
        have h3 := fa0.out
        have h4 := hv.out.ho
        omega
      have hpos : 0 < (y :: r).length := by simp
      have hnn : Hold ((y :: r).length < 2 ^ 63) := ⟨by omega⟩
      have x1 : IntKind.i64.wrap ((((y :: r).length : Nat) : Int) - 1) = (((y :: r).length : Nat) : Int) - 1 := IntWalk.i64_in _ (by omega)
      have x2 : (0 : Int) ≤ (((y :: r).length : Nat) : Int) - 1 := by omega
      have x3 : (((y :: r).length : Nat) : Int) - 1 < (((y :: r).length : Nat) : Int) := by omega
      have x4 : (0 : Int) < (((y :: r).length : Nat) : Int) := by omega
      have x5 : ((((y :: r).length : Nat) : Int) == 0) = false := by simp; omega
      have x6 : (List.isEmpty (y :: r)) = false := rfl
      rw [x6]
      generalize (y :: r).headD 0 = X0 at *
      generalize (y :: r).getLastD 0 = X1 at *
      generalize hnl : (y :: r).length = n at *
      generalize ints (y :: r) ++ ta = L at *
      clear fa6 fa7 fa8 fa9 fa10 fa0 fa1 hlen2 hpos hgt p12 p13 p14 rb rc
      subst e12 e13 e14
      simp -implicitDefEqProofs (maxSteps := 1000000) only [go_sem, seval, *]
      repeat' (first | ((first | ((with_reducible refine NewK.intro fun g hg hn => ?_) <;> try simp only [own_none_iff] at hn) | ((with_reducible refine GuardB.split (fun hc => ?_) (fun hc => ?_)) <;> (have hc2 := hc; try simp only [beq_eq_false_iff_ne, beq_iff_eq, ne_eq, bne_iff_ne, bne_eq_false_iff_eq, decide_eq_true_eq, decide_eq_false_iff_not, Bool.not_true, Bool.not_false, Int.not_le, Int.not_lt] at hc2)) | ((with_reducible refine CondK.split (fun hc => ?_) (fun hc => ?_)) <;> (have hc2 := hc; try simp only [beq_eq_false_iff_ne, beq_iff_eq, ne_eq, bne_iff_ne, bne_eq_false_iff_eq, decide_eq_true_eq, decide_eq_false_iff_not, Bool.not_true, Bool.not_false, Int.not_le, Int.not_lt] at hc2)) | ((with_reducible refine PickK.split (fun hc => ?_) (fun hc => ?_)) <;> (have hc2 := hc; try simp only [beq_eq_false_iff_ne, beq_iff_eq, ne_eq, bne_iff_ne, bne_eq_false_iff_eq, decide_eq_true_eq, decide_eq_false_iff_not, Bool.not_true, Bool.not_false, Int.not_le, Int.not_lt] at hc2)) | (with_reducible refine dop_buildSlice ?_) | (with_reducible refine dop_build ?_) | ((with_reducible refine Cr.call (f := 65) (min_ok _ _ _ _ _ _ _ ib hnn) ?_)) | (with_reducible refine CallV.of (f := 65) (min_ok _ _ _ _ _ _ _ ib hnn) ni65 ?_) | ((with_reducible refine Cr.call (f := 66) (max_ok _ _ _ _ _ _ _ ic hnn) ?_)) | (with_reducible refine CallV.of (f := 66) (max_ok _ _ _ _ _ _ _ ic hnn) ni66 ?_) | ((with_reducible refine DDraw.told (id := 14) [] [] mo ?_ ?_); kernel_rfl) | ((with_reducible refine DDraw.told (id := 16) [] [.tmp 12, .tmp 13, .tmp 14] mo ?_ ?_); kernel_rfl) | ((with_reducible refine DDraw.told (id := 18) [2, 3] [] mo ?_ ?_); kernel_rfl) | ((with_reducible refine DDraw.told (id := 19) [] [.tmp 6, .tmp 7] mo ?_ ?_); kernel_rfl) | ((with_reducible refine DDraw.told (id := 3) [3, 4] [] mo ?_ ?_); kernel_rfl) | ((with_reducible refine DDraw.told (id := 6) [2, 3] [] mo ?_ ?_); kernel_rfl) | ((with_reducible refine DDraw.told (id := 7) [] [] mo ?_ ?_); kernel_rfl) | ((with_reducible refine DDraw.told (id := 9) [2, 3] [] mo ?_ ?_); kernel_rfl) | ((with_reducible refine GuardD.split (fun hc => ?_) (fun hc => ?_)) <;> (have hc2 := hc; try simp only [beq_eq_false_iff_ne, beq_iff_eq, ne_eq, bne_iff_ne, bne_eq_false_iff_eq, decide_eq_true_eq, decide_eq_false_iff_not, Bool.not_true, Bool.not_false, Int.not_le, Int.not_lt] at hc2)) | (with_reducible refine stp_build ?_) | (with_reducible refine stp_buildSlice ?_) | (with_reducible refine stp_store ?_) | (with_reducible refine stp_ns ?_) | (with_reducible refine NsB.intro (fun h' ho K' hk => by simp -implicitDefEqProofs (maxSteps := 1000000) only [go_sem, seval, *] <;> exact hk) ?_) | (with_reducible refine WrB.intro _ (by simp -implicitDefEqProofs (maxSteps := 1000000) only [go_sem, seval, *]) (fun h' ho K' hk => by simp -implicitDefEqProofs (maxSteps := 1000000) only [go_sem, seval, *]; exact hk) ?_) | ((with_reducible refine DDraw.auto mo ?_ ?_); kernel_rfl)) <;> simp -implicitDefEqProofs (maxSteps := 1000000) only [go_sem, seval, *]) | (with_reducible refine bi_same ?_))

end Go.Proofs.Ytdhhaglaikdpbaa
