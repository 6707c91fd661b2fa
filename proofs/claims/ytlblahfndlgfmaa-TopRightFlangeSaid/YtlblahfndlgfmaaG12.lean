/-
  Walks. Conditions: none.
-/
import Derived.Test.YtlblahfndlgfmaaG11
set_option linter.unusedVariables false
set_option linter.unusedSimpArgs false
namespace Go.Proofs.Ytlblahfndlgfmaa
open Go.RowKit Go.SL
set_option maxHeartbeats 1000000
set_option maxRecDepth 1000000
attribute [local go_sem] i64w
attribute [local go_sem] dwp_eqGuardE dwp_eqGuardN rval_eqGuardE rval_eqGuardN
theorem law_nums {ka kb kc ke nd : Int} (hk : BoltOk 2000 5000 7000 ka kb kc ke 50000 60000 90 110 30000 33000) (h1 : 50 ≤ ka ∧ ka ≤ kb ∧ kb ≤ 364) (h2 : 50 ≤ kc ∧ kc ≤ ke ∧ ke ≤ 364) (hn : 5000 ≤ nd ∧ nd < 30000) :
    ∃ L M, L = leastV 2000 5000 7000 kb ke nd ∧ M = mostV 2000 5000 7000 ka kc 30000 30000 ∧ (0 < L ∧ L ≤ 200000000) ∧ (0 ≤ M ∧ M ≤ 200000000) ∧
      ∀ t, 0 ≤ t ∧ t ≤ 1000000000 → gE 2000 5000 7000 ka kb kc ke 50000 60000 90 110 30000 33000 t = 0 ∧ (0 ≤ gA 2000 5000 7000 ka kb kc ke 50000 60000 90 110 30000 33000 t ∧ 0 ≤ gB 2000 5000 7000 ka kb kc ke 50000 60000 90 110 30000 33000 t) ∧ (nd ≤ gA 2000 5000 7000 ka kb kc ke 50000 60000 90 110 30000 33000 t ↔ L ≤ t) ∧ (gB 2000 5000 7000 ka kb kc ke 50000 60000 90 110 30000 33000 t ≤ 30000 ↔ t ≤ M) := by
  have a1 : armV 2000 5000 7000 kb ke = 2000000 + (5000 * kb + 7000 * ke) := by unfold armV fricV; omega
  have a0 : armV 2000 5000 7000 ka kc = 2000000 + (5000 * ka + 7000 * kc) := by unfold armV fricV; omega
  refine ⟨_, _, rfl, rfl, ?_, ?_, fun t ht => ?_⟩
  · unfold leastV
    rw [a1]
    have p1 := mul_bd (a := nd) (b := 2000000 + (5000 * kb + 7000 * ke)) (A := 30000) (B := 6400000) (by omega) (by omega) (by omega) (by omega)
    have p2 : 5000 * 1 ≤ nd * (2000000 + (5000 * kb + 7000 * ke)) := Int.mul_le_mul hn.1 (by omega) (by omega) (by omega)
    unfold ceilV
    generalize nd * (2000000 + (5000 * kb + 7000 * ke)) = x at *
    omega
  · unfold mostV ceilV
    rw [a0]
    have : min (30000 : Int) 30000 + 1 = 30001 := by omega
    rw [this]
    omega
  · have hz : gE 2000 5000 7000 ka kb kc ke 50000 60000 90 110 30000 33000 t = 0 := by
      refine gE_zero hk (by omega) ?_
      rw [a0]
      unfold endT
      refine Int.ediv_le_of_le_mul (by omega) (by omega)
    have b := g_bd hz
    refine ⟨hz, by omega, ?_, ?_⟩
    · rw [b.2.2.1, need_iff (by rw [a1]; omega)]; rfl
    · rw [b.2.2.2.1, yield_iff (by rw [a0]; omega)]; rfl
theorem Judge_C (ro : Addr → Option Value) (n m : Nat) (gs so sn sc gp po pc : Nat) (sh : List Int) (ld th hd ot0 ot1 oh0 oh1 st0 st1 sp0 sp1 yi0 yi1 nd : Int) (pl : List (Int × Int))
    (hx : readI ro gs so sn = some sh) (hc : fcheckV n sn sh ld th hd ot0 ot1 oh0 oh1 st0 st1 sp0 sp1 yi0 yi1 nd = 0) (hN : 3 ≤ n ∧ n ≤ 12 ∧ sn = n / 2) (hm : m ≤ 200 ∧ pl.length = m) (hp : ∀ p ∈ pl, okSt ld th hd ot0 ot1 oh0 oh1 st0 st1 sp0 sp1 yi0 yi1 n p)
    (hs : ∀ j, 0 ≤ shareV sh n j ∧ shareV sh n j ≤ 500) (hpl : readV ro gp po (m * 2) = some (pl.flatMap spC)) :
    Cr Try.prog 10 #[.agg #[.int .i64 n, .int .i64 ld, .int .i64 th, .int .i64 hd, .int .i64 ot0, .int .i64 ot1, .int .i64 oh0, .int .i64 oh1, .int .i64 st0, .int .i64 st1, .int .i64 sp0, .int .i64 sp1, .int .i64 yi0, .int .i64 yi1, .slice (some ⟨gs, so, none⟩) sn sc, .int .i64 nd], .slice (some ⟨gp, po, none⟩) m pc] ro (.tuple #[.bool (tightV (runF ld th hd ot0 ot1 oh0 oh1 st0 st1 sp0 sp1 yi0 yi1 sh n fl0 pl).1 n nd), .bool (decide ((runF ld th hd ot0 ot1 oh0 oh1 st0 st1 sp0 sp1 yi0 yi1 sh n fl0 pl).2.2 ≤ yi0)), .int .i64 0]) := by
  refine Cr.ofD fun F hF hT => ?_
  subst hF
  exact Judge_D F hT Hp.none_ _ n m gs so sn sc gp po pc sh ld th hd ot0 ot1 oh0 oh1 st0 st1 sp0 sp1 yi0 yi1 nd pl ⟨readI_mono (fun a u e => Hp.cell_ro e) hx⟩ ⟨hc⟩ ⟨hN⟩ ⟨hm⟩ ⟨hp⟩ ⟨hs⟩ ⟨readV_mono (fun a u e => Hp.cell_ro e) hpl⟩ ⟨rfl⟩
theorem Right_C (ro : Addr → Option Value) (n : Nat) (gs so sn sc gb po pc gt to tc : Nat) (sh xs : List Int) (ld th hd ot0 ot1 oh0 oh1 st0 st1 sp0 sp1 yi0 yi1 nd tq : Int)
    (hx : readI ro gs so sn = some sh) (hc : fcheckV n sn sh ld th hd ot0 ot1 oh0 oh1 st0 st1 sp0 sp1 yi0 yi1 nd = 0) (hN : 3 ≤ n ∧ n ≤ 12 ∧ sn = n / 2) (hN8 : 3 ≤ n ∧ n ≤ 8) (ho : Ordr n xs) (hp : ∀ x ∈ xs, 0 ≤ x ∧ x < n) (hg0 : gE ld th hd ot0 ot1 oh0 oh1 st0 st1 sp0 sp1 yi0 yi1 tq = 0)
    (hs : ∀ j, 0 ≤ shareV sh n j ∧ shareV sh n j ≤ 500) (hpl : readI ro gb po n = some xs) (htq : readI ro gt to 1 = some [tq]) (hz : (tightV (runF ld th hd ot0 ot1 oh0 oh1 st0 st1 sp0 sp1 yi0 yi1 sh n fl0 (ordP xs tq)).1 n nd && decide ((runF ld th hd ot0 ot1 oh0 oh1 st0 st1 sp0 sp1 yi0 yi1 sh n fl0 (ordP xs tq)).2.2 ≤ yi0)) = false) :
    Cr Try.prog 16 #[.agg #[.int .i64 n, .int .i64 ld, .int .i64 th, .int .i64 hd, .int .i64 ot0, .int .i64 ot1, .int .i64 oh0, .int .i64 oh1, .int .i64 st0, .int .i64 st1, .int .i64 sp0, .int .i64 sp1, .int .i64 yi0, .int .i64 yi1, .slice (some ⟨gs, so, none⟩) sn sc, .int .i64 nd], .slice (some ⟨gb, po, none⟩) n pc, .int .i64 1, .slice (some ⟨gt, to, none⟩) 1 tc] ro (.tuple #[.slice none 0 0, .int .i64 0]) := by
  refine Cr.ofD fun F hF hT => ?_
  subst hF
  exact Right_D F hT Hp.none_ _ n gs so sn sc gb po pc gt to tc sh xs ld th hd ot0 ot1 oh0 oh1 st0 st1 sp0 sp1 yi0 yi1 nd tq ⟨readI_mono (fun a u e => Hp.cell_ro e) hx⟩ ⟨hc⟩ ⟨hN⟩ ⟨hN8⟩ ⟨ho⟩ ⟨hp⟩ ⟨hg0⟩ ⟨hs⟩ ⟨readI_mono (fun a u e => Hp.cell_ro e) hpl⟩ ⟨readI_mono (fun a u e => Hp.cell_ro e) htq⟩ ⟨fun _ => rfl⟩ ⟨fun h => by rw [hz] at h; cases h⟩
theorem pubIn_b (ro : Addr → Option Value) (x lo hi : Int) (b : Bool) (hb : (decide (lo ≤ x) && decide (x ≤ hi)) = b) : Cr Try.prog 15 #[.int .i64 x, .agg #[.int .i64 lo, .int .i64 hi]] ro (.bool b) := by
  subst hb
  (refine Cr.of Try.func15 rfl rfl (fun F hF => ?_); simp only [Try.ntmps15, Try.results15, List.size_toArray, List.length_cons, List.length_nil, Nat.reduceAdd, Nat.reduceSub, Array.replicate_succ, Array.replicate_zero, List.push_toArray, List.append_toArray, List.nil_append, List.cons_append]; simp -implicitDefEqProofs (maxSteps := 1000000) only [go_sem, seval])
  subst hF
  try simp -implicitDefEqProofs (maxSteps := 1000000) only [go_sem, seval, *]
  repeat' (first | ((first | ((with_reducible refine NewK.intro fun g hg hn => ?_) <;> try simp only [own_none_iff] at hn) | ((with_reducible refine GuardB.split (fun hc => ?_) (fun hc => ?_)) <;> (have hc2 := hc; try simp only [beq_eq_false_iff_ne, beq_iff_eq, ne_eq, bne_iff_ne, bne_eq_false_iff_eq, decide_eq_true_eq, decide_eq_false_iff_not, Bool.not_true, Bool.not_false, Int.not_le, Int.not_lt] at hc2)) | ((with_reducible refine CondK.split (fun hc => ?_) (fun hc => ?_)) <;> (have hc2 := hc; try simp only [beq_eq_false_iff_ne, beq_iff_eq, ne_eq, bne_iff_ne, bne_eq_false_iff_eq, decide_eq_true_eq, decide_eq_false_iff_not, Bool.not_true, Bool.not_false, Int.not_le, Int.not_lt] at hc2)) | ((with_reducible refine PickK.split (fun hc => ?_) (fun hc => ?_)) <;> (have hc2 := hc; try simp only [beq_eq_false_iff_ne, beq_iff_eq, ne_eq, bne_iff_ne, bne_eq_false_iff_eq, decide_eq_true_eq, decide_eq_false_iff_not, Bool.not_true, Bool.not_false, Int.not_le, Int.not_lt] at hc2)) | (with_reducible refine dop_buildSlice ?_) | (with_reducible refine dop_build ?_) | ((with_reducible refine GuardD.split (fun hc => ?_) (fun hc => ?_)) <;> (have hc2 := hc; try simp only [beq_eq_false_iff_ne, beq_iff_eq, ne_eq, bne_iff_ne, bne_eq_false_iff_eq, decide_eq_true_eq, decide_eq_false_iff_not, Bool.not_true, Bool.not_false, Int.not_le, Int.not_lt] at hc2)) | (with_reducible refine stp_build ?_) | (with_reducible refine stp_buildSlice ?_) | (with_reducible refine stp_store ?_) | (with_reducible refine stp_ns ?_) | (with_reducible refine NsB.intro (fun h' ho K' hk => by simp -implicitDefEqProofs (maxSteps := 1000000) only [go_sem, seval, *] <;> exact hk) ?_) | (with_reducible refine WrB.intro _ (by simp -implicitDefEqProofs (maxSteps := 1000000) only [go_sem, seval, *]) (fun h' ho K' hk => by simp -implicitDefEqProofs (maxSteps := 1000000) only [go_sem, seval, *]; exact hk) (fun h' ho K' hk => by simp -implicitDefEqProofs (maxSteps := 1000000) only [go_sem, seval, *] at hk; exact hk) (fun h' ho hk => by simp -implicitDefEqProofs (maxSteps := 1000000) only [go_sem, seval, *] at hk <;> with_unfolding_all exact False.elim hk) ?_) | (with_reducible refine WrB.intro _ (by simp -implicitDefEqProofs (maxSteps := 1000000) only [go_sem, seval, *]) (fun h' ho K' hk => by simp -implicitDefEqProofs (maxSteps := 1000000) only [go_sem, seval, *]; exact hk) ?_) | ((with_reducible refine DDraw.auto mo ?_ ?_); kernel_rfl)) <;> simp -implicitDefEqProofs (maxSteps := 1000000) only [go_sem, seval, *]) | (with_reducible refine bi_same ?_))

end Go.Proofs.Ytlblahfndlgfmaa
