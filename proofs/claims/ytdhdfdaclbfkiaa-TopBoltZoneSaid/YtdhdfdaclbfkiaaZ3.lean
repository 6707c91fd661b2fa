/-
  Walks. Conditions: none.
-/
import Derived.Test.YtdhdfdaclbfkiaaZ2
set_option linter.unusedVariables false
set_option linter.unusedSimpArgs false
namespace Go.Proofs.Ytdhdfdaclbfkiaa
open Go.RowKit Go.SL
set_option maxHeartbeats 1000000
set_option maxRecDepth 1000000
theorem force_lo {ld th hd x y w t : Int} (ha : 1000 ≤ armV ld th hd x y) (h : leastV ld th hd x y w ≤ t) : w ≤ endT (armV ld th hd x y) t := by
  have e1 : w ≤ 1000 * t / armV ld th hd x y ↔ w * armV ld th hd x y ≤ 1000 * t := Int.le_ediv_iff_mul_le (by omega)
  unfold leastV ceilV at h
  unfold endT
  rw [e1]
  generalize w * armV ld th hd x y = P at *
  omega
theorem force_hi {ld th hd x y w yi t : Int} (ha : 1000 ≤ armV ld th hd x y) (h : t ≤ mostV ld th hd x y w yi) : endT (armV ld th hd x y) t ≤ w := by
  have e3 : 1000 * t / armV ld th hd x y < min w yi + 1 ↔ 1000 * t < (min w yi + 1) * armV ld th hd x y := Int.ediv_lt_iff_lt_mul (by omega)
  unfold mostV ceilV at h
  unfold endT
  generalize (min w yi + 1) * armV ld th hd x y = Q at *
  generalize 1000 * t / armV ld th hd x y = D at *
  omega
theorem zarm_mono {ld th hd x y x' y' : Int} (ht : 0 ≤ th) (hh : 0 ≤ hd) (hx : x ≤ x') (hy : y ≤ y') : armV ld th hd x y ≤ armV ld th hd x' y' := by
  have h1 : th * x ≤ th * x' := Int.mul_le_mul_of_nonneg_left hx ht
  have h2 : hd * y ≤ hd * y' := Int.mul_le_mul_of_nonneg_left hy hh
  unfold armV fricV; omega
theorem least_mono {ld th hd x y x' w : Int} (ht : 0 ≤ th) (hh : 0 ≤ hd) (hx : x ≤ x') (hw : 0 ≤ w) : leastV ld th hd x y w ≤ leastV ld th hd x' y w := by
  have h1 := zarm_mono (ld := ld) (y := y) (y' := y) ht hh hx (Int.le_refl _)
  have h2 : w * armV ld th hd x y ≤ w * armV ld th hd x' y := Int.mul_le_mul_of_nonneg_left h1 hw
  unfold leastV ceilV; omega
theorem most_mono {ld th hd x y x' w yi : Int} (ht : 0 ≤ th) (hh : 0 ≤ hd) (hx : x ≤ x') (hw : 0 ≤ w ∧ 0 ≤ yi) : mostV ld th hd x y w yi ≤ mostV ld th hd x' y w yi := by
  have h1 := zarm_mono (ld := ld) (y := y) (y' := y) ht hh hx (Int.le_refl _)
  have h2 : (min w yi + 1) * armV ld th hd x y ≤ (min w yi + 1) * armV ld th hd x' y := Int.mul_le_mul_of_nonneg_left h1 (by omega)
  unfold mostV ceilV; omega
set_option maxHeartbeats 8000000 in
theorem topBoltZone_ok (ro : Addr → Option Value) (q0 q1 q2 p0 p1 p2 p3 r0 r1 a0 a1 c0 c1 c2 : Int) (hq0 : 0 ≤ q0 ∧ q0 < 256) (hq1 : 0 ≤ q1 ∧ q1 < 256) (hq2 : 0 ≤ q2 ∧ q2 < 256) (hp0 : 0 ≤ p0 ∧ p0 < 256) (hp1 : 0 ≤ p1 ∧ p1 < 256) (hp2 : 0 ≤ p2 ∧ p2 < 256) (hp3 : 0 ≤ p3 ∧ p3 < 256) (hr0 : 0 ≤ r0 ∧ r0 < 256) (hr1 : 0 ≤ r1 ∧ r1 < 256) (ha0 : 0 ≤ a0 ∧ a0 < 65536) (ha1 : 0 ≤ a1 ∧ a1 < 65536) (hc0 : 0 ≤ c0 ∧ c0 < 256) (hc1 : 0 ≤ c1 ∧ c1 < 256) (hc2 : 0 ≤ c2 ∧ c2 < 256) :
    Cr Try.prog 3 #[.agg #[.int .u8 q0, .int .u8 q1, .int .u8 q2, .int .u8 p0, .int .u8 p1, .int .u8 p2, .int .u8 p3, .int .u8 r0, .int .u8 r1], .agg #[.int .u16 a0, .int .u16 a1], .agg #[.int .u8 c0, .int .u8 c1, .int .u8 c2]] ro (.bool true) := by
  have hk : Hold (∀ ro, _) := ⟨fun ro => kind_ok ro q0 q1 q2 p0 p1 p2 p3 r0 r1 300 hq0 hq1 hq2 hp0 hp1 hp2 hp3 hr0 hr1⟩
  have bk := kind_fit hq0 hq1 hq2 hp0 hp1 hp2 hp3 hr0 hr1 (lead := 300) (by decide)
  obtain ⟨th, hth⟩ : ∃ th, th = 20 * q1 := ⟨_, rfl⟩
  obtain ⟨hd, hhd⟩ : ∃ hd, hd = 30 * q2 := ⟨_, rfl⟩
  obtain ⟨b, hb⟩ : ∃ b, b = p0 + p1 % 60 := ⟨_, rfl⟩
  obtain ⟨m, hm⟩ : ∃ m, m = p0 + (b - p0) / 2 := ⟨_, rfl⟩
  obtain ⟨oh1, ho1⟩ : ∃ o, o = p2 + p3 % 60 := ⟨_, rfl⟩
  obtain ⟨sp0, hs0⟩ : ∃ o, o = 1 + r0 := ⟨_, rfl⟩
  obtain ⟨sp1, hs1⟩ : ∃ o, o = 1 + r0 + r1 % 20 := ⟨_, rfl⟩
  obtain ⟨w0, hw0⟩ : ∃ w, w = a0 / 8 := ⟨_, rfl⟩
  obtain ⟨v1, hv1⟩ : ∃ w, w = a1 / 4 := ⟨_, rfl⟩
  obtain ⟨w1, hw1⟩ : ∃ w, w = w0 + v1 := ⟨_, rfl⟩
  obtain ⟨t0, ht0⟩ : ∃ w, w = c0 % 9 := ⟨_, rfl⟩
  obtain ⟨tt, htt⟩ : ∃ w, w = c1 % 5 := ⟨_, rfl⟩
  obtain ⟨t1, ht1⟩ : ∃ w, w = t0 + tt := ⟨_, rfl⟩
  obtain ⟨z1, hz1⟩ : ∃ w, w = 90000 + c2 := ⟨_, rfl⟩
  rw [← hth, ← hhd, ← hb, ← ho1, ← hs1, ← hs0] at hk bk
  have bkP : BoltOk 300 th hd p0 m p2 oh1 1000 1000 sp0 sp1 20000 30000 := ⟨bk.hl, bk.ht, bk.hh, by have := bk.ho; omega, bk.hp, bk.hs, bk.hr, bk.hy⟩
  have bkR : BoltOk 300 th hd m b p2 oh1 1000 1000 sp0 sp1 20000 30000 := ⟨bk.hl, bk.ht, bk.hh, by have := bk.ho; omega, bk.hp, bk.hs, bk.hr, bk.hy⟩
  have e1 : IntKind.i64.wrap (b - p0) = b - p0 := IntWalk.i64_in _ (by omega)
  have e2 : IntKind.i64.wrap ((b - p0).tdiv 2) = (b - p0) / 2 := by rw [Int.tdiv_eq_ediv_of_nonneg (by omega)]; exact IntWalk.i64_in _ (by omega)
  have e3 : IntKind.i64.wrap (p0 + (b - p0) / 2) = m := by rw [hm]; exact IntWalk.i64_in _ (by omega)
  have e4 : IntKind.i64.wrap a0 = a0 := IntWalk.i64_in _ (by omega)
  have e5 : IntKind.i64.wrap (a0.tdiv 8) = w0 := by rw [Int.tdiv_eq_ediv_of_nonneg (by omega), hw0]; exact IntWalk.i64_in _ (by omega)
  have e6 : IntKind.i64.wrap a1 = a1 := IntWalk.i64_in _ (by omega)
  have e7 : IntKind.i64.wrap (a1.tdiv 4) = v1 := by rw [Int.tdiv_eq_ediv_of_nonneg (by omega), hv1]; exact IntWalk.i64_in _ (by omega)
  have e8 : IntKind.i64.wrap (w0 + v1) = w1 := by rw [hw1]; exact IntWalk.i64_in _ (by omega)
  have f1 : IntKind.i64.wrap c0 = c0 := IntWalk.i64_in _ (by omega)
  have f2 : c0.tmod 9 = t0 := by rw [ht0]; exact Int.tmod_eq_emod_of_nonneg hc0.1
  have f3 : IntKind.i64.wrap c1 = c1 := IntWalk.i64_in _ (by omega)
  have f4 : c1.tmod 5 = tt := by rw [htt]; exact Int.tmod_eq_emod_of_nonneg hc1.1
  have f5 : IntKind.i64.wrap (t0 + tt) = t1 := by rw [ht1]; exact IntWalk.i64_in _ (by omega)
  have f6 : IntKind.i64.wrap c2 = c2 := IntWalk.i64_in _ (by omega)
  have f7 : IntKind.i64.wrap (90000 + c2) = z1 := by rw [hz1]; exact IntWalk.i64_in _ (by omega)
  have cz : CoatOk 90000 z1 t0 t1 7 2 := ⟨by omega, by omega, by decide, by decide⟩
  have hB := fun ro => zBefore_ok ro 90000 z1 t0 t1 7 2 cz
  have lo1 : bfLo 90000 t0 7 2 = 90000 - t0 * 7 / 2 := by unfold bfLo ceilV; rw [Int.neg_neg]; omega
  have hi1 : bfHi z1 t1 7 2 = z1 - ceilV (t1 * 7) 2 := by unfold bfHi ceilV; omega
  have hw : 0 ≤ w0 ∧ w0 ≤ w1 ∧ w1 ≤ 100000000 := by omega
  have hR := fun ro => Right_ok ro 300 th hd p0 b p2 oh1 1000 1000 sp0 sp1 20000 30000 w0 w1 (-20) 20 bk hw (by decide)
  have hP := fun ro => Right_ok ro 300 th hd p0 m p2 oh1 1000 1000 sp0 sp1 20000 30000 w0 w1 (-20) 20 bkP hw (by decide)
  have hQ := fun ro => Right_ok ro 300 th hd m b p2 oh1 1000 1000 sp0 sp1 20000 30000 w0 w1 (-20) 20 bkR hw (by decide)
  have ab0 := arm_bd 300 th hd p0 p2 bk.hl bk.ht bk.hh (by have := bk.ho; omega) (by have := bk.hp; omega)
  have ab1 := arm_bd 300 th hd b oh1 bk.hl bk.ht bk.hh (by have := bk.ho; omega) (by have := bk.hp; omega)
  have ab2 := arm_bd 300 th hd m oh1 bk.hl bk.ht bk.hh (by have := bkP.ho; omega) (by have := bk.hp; omega)
  have ab3 := arm_bd 300 th hd m p2 bk.hl bk.ht bk.hh (by have := bkP.ho; omega) (by have := bk.hp; omega)
  have mL := least_mono (ld := 300) (y := oh1) (w := w0) bk.ht.1 bk.hh.1 (show m ≤ b by have := bkR.ho; omega) hw.1
  have mM := most_mono (ld := 300) (y := p2) (w := w1) (yi := 20000) bk.ht.1 bk.hh.1 (show p0 ≤ m by have := bkP.ho; omega) (by omega)
  have bM : mostV 300 th hd p0 p2 w1 20000 ≤ 10000000000000 := by
    have m1 := mul_bd (a := min w1 20000 + 1) (b := armV 300 th hd p0 p2) (A := 20001) (B := 300000000) (by omega) (by omega) (by omega) (by omega)
    unfold mostV ceilV; omega
  have nL : 0 ≤ leastV 300 th hd m oh1 w0 := by
    have := Int.mul_nonneg hw.1 (show 0 ≤ armV 300 th hd m oh1 by omega)
    unfold leastV ceilV; omega
  have FL1 : ∀ t, leastV 300 th hd b oh1 w0 ≤ t → w0 ≤ endT (armV 300 th hd m oh1) t := fun t h => force_lo ab2.1 (by omega)
  have FL2 : ∀ t, leastV 300 th hd b oh1 w0 ≤ t → w0 ≤ endT (armV 300 th hd b oh1) t := fun t h => force_lo ab1.1 h
  have FH1 : ∀ t, t ≤ mostV 300 th hd p0 p2 w1 20000 → endT (armV 300 th hd p0 p2) t ≤ w1 := fun t h => force_hi (yi := 20000) ab0.1 h
  have FH2 : ∀ t, t ≤ mostV 300 th hd p0 p2 w1 20000 → endT (armV 300 th hd m p2) t ≤ w1 := fun t h => force_hi (yi := 20000) ab3.1 (by omega)
  have G1 := fun ro t0 t1 h => ForceT ro 300 th hd p0 m p2 oh1 1000 1000 sp0 sp1 20000 30000 t0 t1 bkP h
  have G2 := fun ro t0 t1 h => ForceT ro 300 th hd m b p2 oh1 1000 1000 sp0 sp1 20000 30000 t0 t1 bkR h
  generalize leastV 300 th hd b oh1 w0 = L at *
  generalize mostV 300 th hd p0 p2 w1 20000 = M at *
  generalize leastV 300 th hd m oh1 w0 = L1 at *
  generalize mostV 300 th hd m p2 w1 20000 = M2 at *
  have hBB : (bfLo 90000 t0 7 2 > bfHi z1 t1 7 2 → (∀ ro, Cr Try.prog 13 #[.agg #[.int .i64 90000, .int .i64 z1], .bool false, .agg #[.int .i64 t0, .int .i64 t1, .int .i64 7, .int .i64 2]] ro (.tuple #[.agg #[.int .i64 0, .int .i64 0], .int .i64 9])))
      ∧ (¬ bfLo 90000 t0 7 2 > bfHi z1 t1 7 2 → ((∀ ro, Cr Try.prog 13 #[.agg #[.int .i64 90000, .int .i64 z1], .bool false, .agg #[.int .i64 t0, .int .i64 t1, .int .i64 7, .int .i64 2]] ro (.tuple #[.agg #[.int .i64 (bfLo 90000 t0 7 2), .int .i64 (bfHi z1 t1 7 2)], .int .i64 0])) ∧
        (∀ ro, Cr Try.prog 14 #[.agg #[.int .i64 (bfLo 90000 t0 7 2), .int .i64 (bfHi z1 t1 7 2)], .bool false, .agg #[.int .i64 t0, .int .i64 t1, .int .i64 7, .int .i64 2]] ro (.tuple #[.agg #[.int .i64 (bfLo 90000 t0 7 2 + t0 * 7 / 2), .int .i64 (bfHi z1 t1 7 2 + ceilV (t1 * 7) 2)], .int .i64 0])))) := by
    constructor
    · intro hb
      simp only [if_pos hb] at hB
      exact hB
    · intro hb
      simp only [if_neg hb] at hB
      refine ⟨hB, fun ro => zAfter_ok ro _ _ t0 t1 7 2 ⟨?_, cz.t, cz.n, cz.d⟩⟩
      unfold ceilV at hi1
      omega
  have g1 : (bfLo 90000 t0 7 2 + t0 * 7 / 2 < 90000) = False := by simp only [eq_iff_iff, iff_false]; omega
  have g2 : (bfHi z1 t1 7 2 + ceilV (t1 * 7) 2 > z1) = False := by simp only [eq_iff_iff, iff_false]; omega
  clear hB
  generalize bfLo 90000 t0 7 2 = B0 at *
  generalize bfHi z1 t1 7 2 = B1 at *
  by_cases hlt : rHi M 20 < rLo L (-20)
  · simp only [rA, rB, rE, if_pos hlt] at hR
    by_cases hb : B0 > B1
    · exact zone_99 ro q0 q1 q2 p0 p1 p2 p3 r0 r1 a0 a1 c0 c1 c2 th hd p0 b m p2 oh1 sp0 sp1 w0 v1 w1 t0 tt t1 z1 hk e1 e2 e3 e4 e5 e6 e7 e8 f1 f2 f3 f4 f5 f6 f7 ⟨hR⟩ ⟨hBB.1 hb⟩
    · exact zone_90 ro q0 q1 q2 p0 p1 p2 p3 r0 r1 a0 a1 c0 c1 c2 th hd p0 b m p2 oh1 sp0 sp1 w0 v1 w1 t0 tt t1 z1 _ _ _ _ hk e1 e2 e3 e4 e5 e6 e7 e8 f1 f2 f3 f4 f5 f6 f7 ⟨hR⟩ ⟨(hBB.2 hb).1⟩ ⟨(hBB.2 hb).2⟩ g1 g2
  · simp only [rA, rB, rE, if_neg hlt] at hR
    have u1 : ¬ rHi M 20 < rLo L1 (-20) := by
      unfold rLo rHi at *
      split at hlt <;> split <;> omega
    have u2 : ¬ rHi M2 20 < rLo L (-20) := by
      unfold rHi at *
      omega
    simp only [rA, rB, rE, if_neg u1] at hP
    simp only [rA, rB, rE, if_neg u2] at hQ
    have k0 : (rLo L1 (-20) > rLo L (-20)) = False := by
      simp only [eq_iff_iff, iff_false]
      unfold rLo
      split <;> split <;> omega
    have k1 : (rHi M 20 < rHi M 20) = False := by simp
    have k2 : (rLo L (-20) > rLo L (-20)) = False := by simp
    have k3 : (rHi M2 20 < rHi M 20) = False := by
      simp only [eq_iff_iff, iff_false]
      unfold rHi
      omega
    have b0 : 0 ≤ rLo L (-20) ∧ L ≤ max 0 (rLo L (-20) - 20) := by
      unfold rLo
      split <;> omega
    have b1 : rHi M 20 + 20 ≤ M := by unfold rHi; omega
    have b2 : rLo L (-20) ≤ rHi M 20 := by omega
    generalize rLo L (-20) = R0 at *
    generalize rHi M 20 = R1 at *
    generalize rLo L1 (-20) = U0 at *
    generalize rHi M2 20 = U3 at *
    have l1 : IntKind.i64.wrap (R0 - 20) = R0 - 20 := IntWalk.i64_in _ (by omega)
    have l2 : IntKind.i64.wrap (R0 + 20) = R0 + 20 := IntWalk.i64_in _ (by omega)
    have l3 : IntKind.i64.wrap (R1 - 20) = R1 - 20 := IntWalk.i64_in _ (by omega)
    have l4 : IntKind.i64.wrap (R1 + 20) = R1 + 20 := IntWalk.i64_in _ (by omega)
    have h1 : Hold (∀ ro, _) := ⟨fun ro => G1 ro (max 0 (R0 - 20)) (R0 + 20) (by omega)⟩
    have h2 : Hold (∀ ro, _) := ⟨fun ro => G1 ro (max 0 (R1 - 20)) (R1 + 20) (by omega)⟩
    have h3 : Hold (∀ ro, _) := ⟨fun ro => G2 ro (max 0 (R0 - 20)) (R0 + 20) (by omega)⟩
    have h4 : Hold (∀ ro, _) := ⟨fun ro => G2 ro (max 0 (R1 - 20)) (R1 + 20) (by omega)⟩
    have i0 : (endT (armV 300 th hd m oh1) (max 0 (R0 - 20)) < w0) = False := by simp only [eq_iff_iff, iff_false]; have := FL1 (max 0 (R0 - 20)) (by omega); omega
    have i1 : (endT (armV 300 th hd m oh1) (max 0 (R1 - 20)) < w0) = False := by simp only [eq_iff_iff, iff_false]; have := FL1 (max 0 (R1 - 20)) (by omega); omega
    have i2 : (endT (armV 300 th hd b oh1) (max 0 (R0 - 20)) < w0) = False := by simp only [eq_iff_iff, iff_false]; have := FL2 (max 0 (R0 - 20)) (by omega); omega
    have i3 : (endT (armV 300 th hd b oh1) (max 0 (R1 - 20)) < w0) = False := by simp only [eq_iff_iff, iff_false]; have := FL2 (max 0 (R1 - 20)) (by omega); omega
    have j0 : (endT (armV 300 th hd p0 p2) (R0 + 20) > w1) = False := by simp only [eq_iff_iff, iff_false]; have := FH1 (R0 + 20) (by omega); omega
    have j1 : (endT (armV 300 th hd p0 p2) (R1 + 20) > w1) = False := by simp only [eq_iff_iff, iff_false]; have := FH1 (R1 + 20) (by omega); omega
    have j2 : (endT (armV 300 th hd m p2) (R0 + 20) > w1) = False := by simp only [eq_iff_iff, iff_false]; have := FH2 (R0 + 20) (by omega); omega
    have j3 : (endT (armV 300 th hd m p2) (R1 + 20) > w1) = False := by simp only [eq_iff_iff, iff_false]; have := FH2 (R1 + 20) (by omega); omega
    by_cases hb : B0 > B1
    · exact zone_09 ro q0 q1 q2 p0 p1 p2 p3 r0 r1 a0 a1 c0 c1 c2 th hd p0 b m p2 oh1 sp0 sp1 w0 v1 w1 t0 tt t1 z1 R0 R1 _ _ _ _ _ _ _ _ _ _ _ _ hk e1 e2 e3 e4 e5 e6 e7 e8 f1 f2 f3 f4 f5 f6 f7 ⟨hR⟩ ⟨hBB.1 hb⟩ l1 l2 l3 l4 h1 h2 h3 h4 i0 j0 i1 j1 i2 j2 i3 j3 ⟨hP⟩ ⟨hQ⟩ k0 k1 k2 k3
    · exact zone_00 ro q0 q1 q2 p0 p1 p2 p3 r0 r1 a0 a1 c0 c1 c2 th hd p0 b m p2 oh1 sp0 sp1 w0 v1 w1 t0 tt t1 z1 _ _ _ _ R0 R1 _ _ _ _ _ _ _ _ _ _ _ _ hk e1 e2 e3 e4 e5 e6 e7 e8 f1 f2 f3 f4 f5 f6 f7 ⟨hR⟩ ⟨(hBB.2 hb).1⟩ ⟨(hBB.2 hb).2⟩ g1 g2 l1 l2 l3 l4 h1 h2 h3 h4 i0 j0 i1 j1 i2 j2 i3 j3 ⟨hP⟩ ⟨hQ⟩ k0 k1 k2 k3

end Go.Proofs.Ytdhdfdaclbfkiaa
