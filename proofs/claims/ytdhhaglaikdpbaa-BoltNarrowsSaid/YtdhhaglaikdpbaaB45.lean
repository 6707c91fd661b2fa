/-
  Walks. Conditions: none.
-/
import Derived.Test.YtdhhaglaikdpbaaB440
import Derived.Test.YtdhhaglaikdpbaaB441
import Derived.Test.YtdhhaglaikdpbaaB442
import Derived.Test.YtdhhaglaikdpbaaB443
import Derived.Test.YtdhhaglaikdpbaaB444
set_option linter.unusedVariables false
set_option linter.unusedSimpArgs false
namespace Go.Proofs.Ytdhhaglaikdpbaa
open Go.RowKit Go.SL
set_option maxHeartbeats 1000000
set_option maxRecDepth 1000000
theorem nar_all {ld th hd ot0 ot1 oh0 oh1 st0 st1 sp0 sp1 yi0 yi1 ct0 ct1 ch0 ch1 cs0 cs1 cp0 cp1 cy0 cy1 k t0 t1 a0 a1 s0 s1 w0 w1 : Int} (bk : BoltOk ld th hd ot0 ot1 oh0 oh1 st0 st1 sp0 sp1 yi0 yi1) (n : NarOk ot0 ot1 oh0 oh1 st0 st1 sp0 sp1 yi0 yi1 ct0 ct1 ch0 ch1 cs0 cs1 cp0 cp1 cy0 cy1) (bw : wayB k t0 t1 a0 a1 s0 s1 = true) (hw : 0 ≤ w0 ∧ 0 ≤ w1) :
    decide (fLo ld th hd ct0 ct1 ch0 ch1 cs0 cs1 cp0 cp1 cy0 cy1 k t0 t1 a0 a1 s0 s1 < fLo ld th hd ot0 ot1 oh0 oh1 st0 st1 sp0 sp1 yi0 yi1 k t0 t1 a0 a1 s0 s1) = false ∧ decide (fHi ld th hd ct0 ct1 ch0 ch1 cs0 cs1 cp0 cp1 cy0 cy1 k t0 t1 a0 a1 s0 s1 > fHi ld th hd ot0 ot1 oh0 oh1 st0 st1 sp0 sp1 yi0 yi1 k t0 t1 a0 a1 s0 s1) = false
    ∧ (decide (fHi ld th hd ot0 ot1 oh0 oh1 st0 st1 sp0 sp1 yi0 yi1 k t0 t1 a0 a1 s0 s1 ≤ yi0) = false ∨ (decide (fHi ld th hd ot0 ot1 oh0 oh1 st0 st1 sp0 sp1 yi0 yi1 k t0 t1 a0 a1 s0 s1 ≤ yi0) = true ∧ decide (fHi ld th hd ct0 ct1 ch0 ch1 cs0 cs1 cp0 cp1 cy0 cy1 k t0 t1 a0 a1 s0 s1 ≤ cy0) = true))
    ∧ (((rE (leastV ld th hd ot1 oh1 w0) (mostV ld th hd ot0 oh0 w1 yi0) (-5) 5 == 0) = true ∧ (rE (leastV ld th hd ot1 oh1 w0) (mostV ld th hd ot0 oh0 w1 yi0) (-5) 5 != 0) = false ∧ (rE (leastV ld th hd ct1 ch1 w0) (mostV ld th hd ct0 ch0 w1 cy0) (-5) 5 != 0) = false
        ∧ decide (rA (leastV ld th hd ct1 ch1 w0) (mostV ld th hd ct0 ch0 w1 cy0) (-5) 5 > rA (leastV ld th hd ot1 oh1 w0) (mostV ld th hd ot0 oh0 w1 yi0) (-5) 5) = false ∧ decide (rB (leastV ld th hd ct1 ch1 w0) (mostV ld th hd ct0 ch0 w1 cy0) (-5) 5 < rB (leastV ld th hd ot1 oh1 w0) (mostV ld th hd ot0 oh0 w1 yi0) (-5) 5) = false)
      ∨ ((rE (leastV ld th hd ot1 oh1 w0) (mostV ld th hd ot0 oh0 w1 yi0) (-5) 5 == 0) = false ∧ (rE (leastV ld th hd ot1 oh1 w0) (mostV ld th hd ot0 oh0 w1 yi0) (-5) 5 != 0) = true ∧ (rE (leastV ld th hd ot1 oh1 w0) (mostV ld th hd ot0 oh0 w1 yi0) (-5) 5 != 9) = false))
    ∧ (fineW ld th hd ot0 ot1 oh0 oh1 st0 st1 sp0 sp1 yi0 yi1 w0 w1 ⟨k, t0, t1, a0, a1, s0, s1⟩ = true → fineW ld th hd ct0 ct1 ch0 ch1 cs0 cs1 cp0 cp1 cy0 cy1 w0 w1 ⟨k, t0, t1, a0, a1, s0, s1⟩ = true) := by
  have f := nar_force bk n bw
  have ny := n.y
  have lm := nar_lm bk n hw
  refine ⟨decide_eq_false (by omega), decide_eq_false (by omega), ?_, ?_, nar_fine bk n bw⟩
  · by_cases h : fHi ld th hd ot0 ot1 oh0 oh1 st0 st1 sp0 sp1 yi0 yi1 k t0 t1 a0 a1 s0 s1 ≤ yi0
    · exact .inr ⟨decide_eq_true h, decide_eq_true (by omega)⟩
    · exact .inl (decide_eq_false h)
  · rcases rE_cases (leastV ld th hd ot1 oh1 w0) (mostV ld th hd ot0 oh0 w1 yi0) (-5) 5 with h | ⟨h, _, _⟩
    · have r := nar_rE lm.1 lm.2 h
      exact .inl ⟨by rw [h]; rfl, by rw [h]; rfl, by rw [r.1]; rfl, decide_eq_false (by omega), decide_eq_false (by omega)⟩
    · exact .inr ⟨by rw [h]; rfl, by rw [h]; rfl, by rw [h]; rfl⟩
theorem boltNarrows_mid (ro : Addr → Option Value) (z0 z1 z2 o0 o1 o2 o3 c0 c1 c2 c3 c4 c5 kd y0 y1 y2 y3 r0 r1 r2 r3 r4 r5 r6 r7 b0 b1 b2 p0 p1 ld th hd ot0 ot1 oh0 oh1 st0 st1 sp0 sp1 yi0 yi1 k t0 t1 a0 a1 s0 s1 : Int) (hK : Hold (∀ ro, Cr Try.prog 33 #[.agg #[.int .u8 z0, .int .u8 z1, .int .u8 z2, .int .u8 o0, .int .u8 o1, .int .u8 o2, .int .u8 o3, .int .u8 c0, .int .u8 c1, .int .u8 c2, .int .u8 c3, .int .u8 c4, .int .u8 c5, .int .u8 kd, .int .u16 y0, .int .u16 y1, .int .u16 y2, .int .u16 y3, .int .u8 r0, .int .u8 r1, .int .u8 r2, .int .u8 r3, .int .u8 r4, .int .u8 r5, .int .u8 r6, .int .u8 r7]] ro (.agg #[.int .i64 ld, .int .i64 th, .int .i64 hd, .int .i64 ot0, .int .i64 ot1, .int .i64 oh0, .int .i64 oh1, .int .i64 st0, .int .i64 st1, .int .i64 sp0, .int .i64 sp1, .int .i64 yi0, .int .i64 yi1]))) (hW : Hold (∀ ro, Cr Try.prog 34 #[.agg #[.int .u8 z0, .int .u8 z1, .int .u8 z2, .int .u8 o0, .int .u8 o1, .int .u8 o2, .int .u8 o3, .int .u8 c0, .int .u8 c1, .int .u8 c2, .int .u8 c3, .int .u8 c4, .int .u8 c5, .int .u8 kd, .int .u16 y0, .int .u16 y1, .int .u16 y2, .int .u16 y3, .int .u8 r0, .int .u8 r1, .int .u8 r2, .int .u8 r3, .int .u8 r4, .int .u8 r5, .int .u8 r6, .int .u8 r7]] ro (.agg #[.int .i64 k, .int .i64 t0, .int .i64 t1, .int .i64 a0, .int .i64 a1, .int .i64 s0, .int .i64 s1]))) (bk : BoltOk ld th hd ot0 ot1 oh0 oh1 st0 st1 sp0 sp1 yi0 yi1) (bw : wayB k t0 t1 a0 a1 s0 s1 = true)
    (hb0 : 0 ≤ b0 ∧ b0 < 256) (hb1 : 0 ≤ b1 ∧ b1 < 256) (hb2 : 0 ≤ b2 ∧ b2 < 256) (hp0 : 0 ≤ p0 ∧ p0 < 65536) (hp1 : 0 ≤ p1 ∧ p1 < 65536) :
    Cr Try.prog 11 #[.agg #[.int .u8 z0, .int .u8 z1, .int .u8 z2, .int .u8 o0, .int .u8 o1, .int .u8 o2, .int .u8 o3, .int .u8 c0, .int .u8 c1, .int .u8 c2, .int .u8 c3, .int .u8 c4, .int .u8 c5, .int .u8 kd, .int .u16 y0, .int .u16 y1, .int .u16 y2, .int .u16 y3, .int .u8 r0, .int .u8 r1, .int .u8 r2, .int .u8 r3, .int .u8 r4, .int .u8 r5, .int .u8 r6, .int .u8 r7], .agg #[.int .u8 b0, .int .u8 b1, .int .u8 b2], .agg #[.int .u16 p0, .int .u16 p1]] ro (.bool true) := by
  have e1 : IntKind.i64.wrap (p0.tdiv 4) = p0 / 4 := by rw [Int.tdiv_eq_ediv_of_nonneg hp0.1]; exact IntWalk.i64_in _ (by omega)
  have hw : 0 ≤ p0 / 4 ∧ p0 / 4 ≤ p0 / 4 + p1 ∧ p0 / 4 + p1 ≤ 100000000 := by omega
  have hm : 0 ≤ min b1 b2 ∧ min b1 b2 < 256 := by omega
  have hM : 0 ≤ max b1 b2 ∧ max b1 b2 < 256 := by omega
  have t5 : b0.tmod 5 = b0 % 5 := Int.tmod_eq_emod_of_nonneg hb0.1
  have ho := bk.ho
  have hp := bk.hp
  have hs := bk.hs
  have hr := bk.hr
  have hy := bk.hy
  have n := nar_refl bk
  have hwn : spB 0 100000000 (p0 / 4) (p0 / 4 + p1) = true := spB_iff.2 hw
  have h5 : b0 % 5 = 0 ∨ b0 % 5 = 1 ∨ b0 % 5 = 2 ∨ b0 % 5 = 3 ∨ b0 % 5 = 4 := by omega
  rcases h5 with h5 | h5 | h5 | h5 | h5
  · have iv := inV_nar (lo := ot0) (hi := ot1) (by omega) hb1 hb2
    have nn : NarOk ot0 ot1 oh0 oh1 st0 st1 sp0 sp1 yi0 yi1 (inV ot0 ot1 (min b1 b2)) (inV ot0 ot1 (max b1 b2)) oh0 oh1 st0 st1 sp0 sp1 yi0 yi1 := ⟨iv, n.h, n.s, n.r, n.y⟩
    have ck : BoltOk ld th hd (inV ot0 ot1 (min b1 b2)) (inV ot0 ot1 (max b1 b2)) oh0 oh1 st0 st1 sp0 sp1 yi0 yi1 := nar_bolt bk nn
    have na := nar_all bk nn bw (w0 := p0 / 4) (w1 := p0 / 4 + p1) (by omega)
    exact boltNarrows_0 ro z0 z1 z2 o0 o1 o2 o3 c0 c1 c2 c3 c4 c5 kd y0 y1 y2 y3 r0 r1 r2 r3 r4 r5 r6 r7 b0 b1 b2 p0 p1 (p0 / 4) (p0 / 4 + p1) (inV ot0 ot1 (min b1 b2)) (inV ot0 ot1 (max b1 b2)) _ _ _ _ _ _ _ _ _ _ ld th hd ot0 ot1 oh0 oh1 st0 st1 sp0 sp1 yi0 yi1 k t0 t1 a0 a1 s0 s1 _ _ _ _ _ _ hK hW ⟨fun ro => in_ok ro ot0 ot1 _ (by omega) hm⟩ ⟨fun ro => in_ok ro ot0 ot1 _ (by omega) hM⟩
      ⟨fun ro => ForceOk ro ld th hd ot0 ot1 oh0 oh1 st0 st1 sp0 sp1 yi0 yi1 k t0 t1 a0 a1 s0 s1 bk bw⟩ ⟨fun ro => ForceOk ro ld th hd (inV ot0 ot1 (min b1 b2)) (inV ot0 ot1 (max b1 b2)) oh0 oh1 st0 st1 sp0 sp1 yi0 yi1 k t0 t1 a0 a1 s0 s1 ck bw⟩ ⟨fun ro => SafeG ro ld th hd ot0 ot1 oh0 oh1 st0 st1 sp0 sp1 yi0 yi1 k t0 t1 a0 a1 s0 s1 bk bw⟩ ⟨fun ro => SafeG ro ld th hd (inV ot0 ot1 (min b1 b2)) (inV ot0 ot1 (max b1 b2)) oh0 oh1 st0 st1 sp0 sp1 yi0 yi1 k t0 t1 a0 a1 s0 s1 ck bw⟩
      ⟨fun ro => Right_ok ro ld th hd ot0 ot1 oh0 oh1 st0 st1 sp0 sp1 yi0 yi1 (p0 / 4) (p0 / 4 + p1) (-5) 5 bk hw (by omega)⟩ ⟨fun ro => Right_ok ro ld th hd (inV ot0 ot1 (min b1 b2)) (inV ot0 ot1 (max b1 b2)) oh0 oh1 st0 st1 sp0 sp1 yi0 yi1 (p0 / 4) (p0 / 4 + p1) (-5) 5 ck hw (by omega)⟩
      ⟨bk⟩ ⟨ck⟩ ⟨bw⟩ ⟨hwn⟩ ⟨rfl⟩ ⟨rfl⟩ ⟨na.2.2.2.2⟩ (IntWalk.i64_in _ (by omega)) e1 (IntWalk.i64_in _ (by omega)) (IntWalk.i64_in _ (by omega)) (by omega) na.1 na.2.1 ⟨na.2.2.1⟩ ⟨na.2.2.2.1⟩
  · have iv := inV_nar (lo := oh0) (hi := oh1) (by omega) hb1 hb2
    have nn : NarOk ot0 ot1 oh0 oh1 st0 st1 sp0 sp1 yi0 yi1 ot0 ot1 (inV oh0 oh1 (min b1 b2)) (inV oh0 oh1 (max b1 b2)) st0 st1 sp0 sp1 yi0 yi1 := ⟨n.o, iv, n.s, n.r, n.y⟩
    have ck : BoltOk ld th hd ot0 ot1 (inV oh0 oh1 (min b1 b2)) (inV oh0 oh1 (max b1 b2)) st0 st1 sp0 sp1 yi0 yi1 := nar_bolt bk nn
    have na := nar_all bk nn bw (w0 := p0 / 4) (w1 := p0 / 4 + p1) (by omega)
    exact boltNarrows_1 ro z0 z1 z2 o0 o1 o2 o3 c0 c1 c2 c3 c4 c5 kd y0 y1 y2 y3 r0 r1 r2 r3 r4 r5 r6 r7 b0 b1 b2 p0 p1 (p0 / 4) (p0 / 4 + p1) (inV oh0 oh1 (min b1 b2)) (inV oh0 oh1 (max b1 b2)) _ _ _ _ _ _ _ _ _ _ ld th hd ot0 ot1 oh0 oh1 st0 st1 sp0 sp1 yi0 yi1 k t0 t1 a0 a1 s0 s1 _ _ _ _ _ _ hK hW ⟨fun ro => in_ok ro oh0 oh1 _ (by omega) hm⟩ ⟨fun ro => in_ok ro oh0 oh1 _ (by omega) hM⟩
      ⟨fun ro => ForceOk ro ld th hd ot0 ot1 oh0 oh1 st0 st1 sp0 sp1 yi0 yi1 k t0 t1 a0 a1 s0 s1 bk bw⟩ ⟨fun ro => ForceOk ro ld th hd ot0 ot1 (inV oh0 oh1 (min b1 b2)) (inV oh0 oh1 (max b1 b2)) st0 st1 sp0 sp1 yi0 yi1 k t0 t1 a0 a1 s0 s1 ck bw⟩ ⟨fun ro => SafeG ro ld th hd ot0 ot1 oh0 oh1 st0 st1 sp0 sp1 yi0 yi1 k t0 t1 a0 a1 s0 s1 bk bw⟩ ⟨fun ro => SafeG ro ld th hd ot0 ot1 (inV oh0 oh1 (min b1 b2)) (inV oh0 oh1 (max b1 b2)) st0 st1 sp0 sp1 yi0 yi1 k t0 t1 a0 a1 s0 s1 ck bw⟩
      ⟨fun ro => Right_ok ro ld th hd ot0 ot1 oh0 oh1 st0 st1 sp0 sp1 yi0 yi1 (p0 / 4) (p0 / 4 + p1) (-5) 5 bk hw (by omega)⟩ ⟨fun ro => Right_ok ro ld th hd ot0 ot1 (inV oh0 oh1 (min b1 b2)) (inV oh0 oh1 (max b1 b2)) st0 st1 sp0 sp1 yi0 yi1 (p0 / 4) (p0 / 4 + p1) (-5) 5 ck hw (by omega)⟩
      ⟨bk⟩ ⟨ck⟩ ⟨bw⟩ ⟨hwn⟩ ⟨rfl⟩ ⟨rfl⟩ ⟨na.2.2.2.2⟩ (IntWalk.i64_in _ (by omega)) e1 (IntWalk.i64_in _ (by omega)) (IntWalk.i64_in _ (by omega)) (by omega) na.1 na.2.1 ⟨na.2.2.1⟩ ⟨na.2.2.2.1⟩
  · have iv := inV_nar (lo := st0) (hi := st1) (by omega) hb1 hb2
    have nn : NarOk ot0 ot1 oh0 oh1 st0 st1 sp0 sp1 yi0 yi1 ot0 ot1 oh0 oh1 (inV st0 st1 (min b1 b2)) (inV st0 st1 (max b1 b2)) sp0 sp1 yi0 yi1 := ⟨n.o, n.h, iv, n.r, n.y⟩
    have ck : BoltOk ld th hd ot0 ot1 oh0 oh1 (inV st0 st1 (min b1 b2)) (inV st0 st1 (max b1 b2)) sp0 sp1 yi0 yi1 := nar_bolt bk nn
    have na := nar_all bk nn bw (w0 := p0 / 4) (w1 := p0 / 4 + p1) (by omega)
    exact boltNarrows_2 ro z0 z1 z2 o0 o1 o2 o3 c0 c1 c2 c3 c4 c5 kd y0 y1 y2 y3 r0 r1 r2 r3 r4 r5 r6 r7 b0 b1 b2 p0 p1 (p0 / 4) (p0 / 4 + p1) (inV st0 st1 (min b1 b2)) (inV st0 st1 (max b1 b2)) _ _ _ _ _ _ _ _ _ _ ld th hd ot0 ot1 oh0 oh1 st0 st1 sp0 sp1 yi0 yi1 k t0 t1 a0 a1 s0 s1 _ _ _ _ _ _ hK hW ⟨fun ro => in_ok ro st0 st1 _ (by omega) hm⟩ ⟨fun ro => in_ok ro st0 st1 _ (by omega) hM⟩
      ⟨fun ro => ForceOk ro ld th hd ot0 ot1 oh0 oh1 st0 st1 sp0 sp1 yi0 yi1 k t0 t1 a0 a1 s0 s1 bk bw⟩ ⟨fun ro => ForceOk ro ld th hd ot0 ot1 oh0 oh1 (inV st0 st1 (min b1 b2)) (inV st0 st1 (max b1 b2)) sp0 sp1 yi0 yi1 k t0 t1 a0 a1 s0 s1 ck bw⟩ ⟨fun ro => SafeG ro ld th hd ot0 ot1 oh0 oh1 st0 st1 sp0 sp1 yi0 yi1 k t0 t1 a0 a1 s0 s1 bk bw⟩ ⟨fun ro => SafeG ro ld th hd ot0 ot1 oh0 oh1 (inV st0 st1 (min b1 b2)) (inV st0 st1 (max b1 b2)) sp0 sp1 yi0 yi1 k t0 t1 a0 a1 s0 s1 ck bw⟩
      ⟨fun ro => Right_ok ro ld th hd ot0 ot1 oh0 oh1 st0 st1 sp0 sp1 yi0 yi1 (p0 / 4) (p0 / 4 + p1) (-5) 5 bk hw (by omega)⟩ ⟨fun ro => Right_ok ro ld th hd ot0 ot1 oh0 oh1 (inV st0 st1 (min b1 b2)) (inV st0 st1 (max b1 b2)) sp0 sp1 yi0 yi1 (p0 / 4) (p0 / 4 + p1) (-5) 5 ck hw (by omega)⟩
      ⟨bk⟩ ⟨ck⟩ ⟨bw⟩ ⟨hwn⟩ ⟨rfl⟩ ⟨rfl⟩ ⟨na.2.2.2.2⟩ (IntWalk.i64_in _ (by omega)) e1 (IntWalk.i64_in _ (by omega)) (IntWalk.i64_in _ (by omega)) (by omega) na.1 na.2.1 ⟨na.2.2.1⟩ ⟨na.2.2.2.1⟩
  · have iv := inV_nar (lo := sp0) (hi := sp1) (by omega) hb1 hb2
    have nn : NarOk ot0 ot1 oh0 oh1 st0 st1 sp0 sp1 yi0 yi1 ot0 ot1 oh0 oh1 st0 st1 (inV sp0 sp1 (min b1 b2)) (inV sp0 sp1 (max b1 b2)) yi0 yi1 := ⟨n.o, n.h, n.s, iv, n.y⟩
    have ck : BoltOk ld th hd ot0 ot1 oh0 oh1 st0 st1 (inV sp0 sp1 (min b1 b2)) (inV sp0 sp1 (max b1 b2)) yi0 yi1 := nar_bolt bk nn
    have na := nar_all bk nn bw (w0 := p0 / 4) (w1 := p0 / 4 + p1) (by omega)
    exact boltNarrows_3 ro z0 z1 z2 o0 o1 o2 o3 c0 c1 c2 c3 c4 c5 kd y0 y1 y2 y3 r0 r1 r2 r3 r4 r5 r6 r7 b0 b1 b2 p0 p1 (p0 / 4) (p0 / 4 + p1) (inV sp0 sp1 (min b1 b2)) (inV sp0 sp1 (max b1 b2)) _ _ _ _ _ _ _ _ _ _ ld th hd ot0 ot1 oh0 oh1 st0 st1 sp0 sp1 yi0 yi1 k t0 t1 a0 a1 s0 s1 _ _ _ _ _ _ hK hW ⟨fun ro => in_ok ro sp0 sp1 _ (by omega) hm⟩ ⟨fun ro => in_ok ro sp0 sp1 _ (by omega) hM⟩
      ⟨fun ro => ForceOk ro ld th hd ot0 ot1 oh0 oh1 st0 st1 sp0 sp1 yi0 yi1 k t0 t1 a0 a1 s0 s1 bk bw⟩ ⟨fun ro => ForceOk ro ld th hd ot0 ot1 oh0 oh1 st0 st1 (inV sp0 sp1 (min b1 b2)) (inV sp0 sp1 (max b1 b2)) yi0 yi1 k t0 t1 a0 a1 s0 s1 ck bw⟩ ⟨fun ro => SafeG ro ld th hd ot0 ot1 oh0 oh1 st0 st1 sp0 sp1 yi0 yi1 k t0 t1 a0 a1 s0 s1 bk bw⟩ ⟨fun ro => SafeG ro ld th hd ot0 ot1 oh0 oh1 st0 st1 (inV sp0 sp1 (min b1 b2)) (inV sp0 sp1 (max b1 b2)) yi0 yi1 k t0 t1 a0 a1 s0 s1 ck bw⟩
      ⟨fun ro => Right_ok ro ld th hd ot0 ot1 oh0 oh1 st0 st1 sp0 sp1 yi0 yi1 (p0 / 4) (p0 / 4 + p1) (-5) 5 bk hw (by omega)⟩ ⟨fun ro => Right_ok ro ld th hd ot0 ot1 oh0 oh1 st0 st1 (inV sp0 sp1 (min b1 b2)) (inV sp0 sp1 (max b1 b2)) yi0 yi1 (p0 / 4) (p0 / 4 + p1) (-5) 5 ck hw (by omega)⟩
      ⟨bk⟩ ⟨ck⟩ ⟨bw⟩ ⟨hwn⟩ ⟨rfl⟩ ⟨rfl⟩ ⟨na.2.2.2.2⟩ (IntWalk.i64_in _ (by omega)) e1 (IntWalk.i64_in _ (by omega)) (IntWalk.i64_in _ (by omega)) (by omega) na.1 na.2.1 ⟨na.2.2.1⟩ ⟨na.2.2.2.1⟩
  · have iv := inV_nar (lo := yi0) (hi := yi1) (by omega) hb1 hb2
    have nn : NarOk ot0 ot1 oh0 oh1 st0 st1 sp0 sp1 yi0 yi1 ot0 ot1 oh0 oh1 st0 st1 sp0 sp1 (inV yi0 yi1 (min b1 b2)) (inV yi0 yi1 (max b1 b2)) := ⟨n.o, n.h, n.s, n.r, iv⟩
    have ck : BoltOk ld th hd ot0 ot1 oh0 oh1 st0 st1 sp0 sp1 (inV yi0 yi1 (min b1 b2)) (inV yi0 yi1 (max b1 b2)) := nar_bolt bk nn
    have na := nar_all bk nn bw (w0 := p0 / 4) (w1 := p0 / 4 + p1) (by omega)
    exact boltNarrows_4 ro z0 z1 z2 o0 o1 o2 o3 c0 c1 c2 c3 c4 c5 kd y0 y1 y2 y3 r0 r1 r2 r3 r4 r5 r6 r7 b0 b1 b2 p0 p1 (p0 / 4) (p0 / 4 + p1) (inV yi0 yi1 (min b1 b2)) (inV yi0 yi1 (max b1 b2)) _ _ _ _ _ _ _ _ _ _ ld th hd ot0 ot1 oh0 oh1 st0 st1 sp0 sp1 yi0 yi1 k t0 t1 a0 a1 s0 s1 _ _ _ _ _ _ hK hW ⟨fun ro => in_ok ro yi0 yi1 _ (by omega) hm⟩ ⟨fun ro => in_ok ro yi0 yi1 _ (by omega) hM⟩
      ⟨fun ro => ForceOk ro ld th hd ot0 ot1 oh0 oh1 st0 st1 sp0 sp1 yi0 yi1 k t0 t1 a0 a1 s0 s1 bk bw⟩ ⟨fun ro => ForceOk ro ld th hd ot0 ot1 oh0 oh1 st0 st1 sp0 sp1 (inV yi0 yi1 (min b1 b2)) (inV yi0 yi1 (max b1 b2)) k t0 t1 a0 a1 s0 s1 ck bw⟩ ⟨fun ro => SafeG ro ld th hd ot0 ot1 oh0 oh1 st0 st1 sp0 sp1 yi0 yi1 k t0 t1 a0 a1 s0 s1 bk bw⟩ ⟨fun ro => SafeG ro ld th hd ot0 ot1 oh0 oh1 st0 st1 sp0 sp1 (inV yi0 yi1 (min b1 b2)) (inV yi0 yi1 (max b1 b2)) k t0 t1 a0 a1 s0 s1 ck bw⟩
      ⟨fun ro => Right_ok ro ld th hd ot0 ot1 oh0 oh1 st0 st1 sp0 sp1 yi0 yi1 (p0 / 4) (p0 / 4 + p1) (-5) 5 bk hw (by omega)⟩ ⟨fun ro => Right_ok ro ld th hd ot0 ot1 oh0 oh1 st0 st1 sp0 sp1 (inV yi0 yi1 (min b1 b2)) (inV yi0 yi1 (max b1 b2)) (p0 / 4) (p0 / 4 + p1) (-5) 5 ck hw (by omega)⟩
      ⟨bk⟩ ⟨ck⟩ ⟨bw⟩ ⟨hwn⟩ ⟨rfl⟩ ⟨rfl⟩ ⟨na.2.2.2.2⟩ (IntWalk.i64_in _ (by omega)) e1 (IntWalk.i64_in _ (by omega)) (IntWalk.i64_in _ (by omega)) (by omega) na.1 na.2.1 ⟨na.2.2.1⟩ ⟨na.2.2.2.1⟩
theorem boltNarrows_ok (ro : Addr → Option Value) (z0 z1 z2 o0 o1 o2 o3 c0 c1 c2 c3 c4 c5 kd y0 y1 y2 y3 r0 r1 r2 r3 r4 r5 r6 r7 b0 b1 b2 p0 p1 : Int) (hz0 : 0 ≤ z0 ∧ z0 < 256) (hz1 : 0 ≤ z1 ∧ z1 < 256) (hz2 : 0 ≤ z2 ∧ z2 < 256) (ho0 : 0 ≤ o0 ∧ o0 < 256) (ho1 : 0 ≤ o1 ∧ o1 < 256) (ho2 : 0 ≤ o2 ∧ o2 < 256) (ho3 : 0 ≤ o3 ∧ o3 < 256) (hc0 : 0 ≤ c0 ∧ c0 < 256) (hc1 : 0 ≤ c1 ∧ c1 < 256) (hc2 : 0 ≤ c2 ∧ c2 < 256) (hc3 : 0 ≤ c3 ∧ c3 < 256) (hc4 : 0 ≤ c4 ∧ c4 < 256) (hc5 : 0 ≤ c5 ∧ c5 < 256) (hkd : 0 ≤ kd ∧ kd < 256) (hy0 : 0 ≤ y0 ∧ y0 < 65536) (hy1 : 0 ≤ y1 ∧ y1 < 65536) (hy2 : 0 ≤ y2 ∧ y2 < 65536) (hy3 : 0 ≤ y3 ∧ y3 < 65536) (hr0 : 0 ≤ r0 ∧ r0 < 256) (hr1 : 0 ≤ r1 ∧ r1 < 256) (hr2 : 0 ≤ r2 ∧ r2 < 256) (hr3 : 0 ≤ r3 ∧ r3 < 256) (hr4 : 0 ≤ r4 ∧ r4 < 256) (hr5 : 0 ≤ r5 ∧ r5 < 256) (hr6 : 0 ≤ r6 ∧ r6 < 256) (hr7 : 0 ≤ r7 ∧ r7 < 256) (hb0 : 0 ≤ b0 ∧ b0 < 256) (hb1 : 0 ≤ b1 ∧ b1 < 256) (hb2 : 0 ≤ b2 ∧ b2 < 256) (hp0 : 0 ≤ p0 ∧ p0 < 65536) (hp1 : 0 ≤ p1 ∧ p1 < 65536) :
    Cr Try.prog 11 #[.agg #[.int .u8 z0, .int .u8 z1, .int .u8 z2, .int .u8 o0, .int .u8 o1, .int .u8 o2, .int .u8 o3, .int .u8 c0, .int .u8 c1, .int .u8 c2, .int .u8 c3, .int .u8 c4, .int .u8 c5, .int .u8 kd, .int .u16 y0, .int .u16 y1, .int .u16 y2, .int .u16 y3, .int .u8 r0, .int .u8 r1, .int .u8 r2, .int .u8 r3, .int .u8 r4, .int .u8 r5, .int .u8 r6, .int .u8 r7], .agg #[.int .u8 b0, .int .u8 b1, .int .u8 b2], .agg #[.int .u16 p0, .int .u16 p1]] ro (.bool true) :=
  boltNarrows_mid ro z0 z1 z2 o0 o1 o2 o3 c0 c1 c2 c3 c4 c5 kd y0 y1 y2 y3 r0 r1 r2 r3 r4 r5 r6 r7 b0 b1 b2 p0 p1 (1 + 10 * z0) (20 * z1) (30 * z2) o0 (o0 + o1 % 60) o2 (o2 + o3 % 60) (1 + 100 * c0) (1 + 100 * c0 + 10 * c1) (1 + c2) (1 + c2 + c3 % 20) (1 + 100 * c4) (1 + 100 * c4 + 10 * c5) (wK kd) (wT0 kd y0) (wT1 kd y0 y1) (wA0 kd y2) (wA1 kd y2 y3) (wS0 kd y2) (wS1 kd y2 y3) ⟨fun ro => kindT_ok ro z0 z1 z2 o0 o1 o2 o3 c0 c1 c2 c3 c4 c5 kd y0 y1 y2 y3 r0 r1 r2 r3 r4 r5 r6 r7 hz0 hz1 hz2 ho0 ho1 ho2 ho3 hc0 hc1 hc2 hc3 hc4 hc5 hkd hy0 hy1 hy2 hy3 hr0 hr1 hr2 hr3 hr4 hr5 hr6 hr7⟩ ⟨fun ro => wayT_ok ro z0 z1 z2 o0 o1 o2 o3 c0 c1 c2 c3 c4 c5 kd y0 y1 y2 y3 r0 r1 r2 r3 r4 r5 r6 r7 hz0 hz1 hz2 ho0 ho1 ho2 ho3 hc0 hc1 hc2 hc3 hc4 hc5 hkd hy0 hy1 hy2 hy3 hr0 hr1 hr2 hr3 hr4 hr5 hr6 hr7⟩ (kindT_fit hz0 hz1 hz2 ho0 ho1 ho2 ho3 hc0 hc1 hc2 hc3 hc4 hc5 hkd hy0 hy1 hy2 hy3 hr0 hr1 hr2 hr3 hr4 hr5 hr6 hr7) (wayT_fit hkd hy0 hy1 hy2 hy3) hb0 hb1 hb2 hp0 hp1

end Go.Proofs.Ytdhhaglaikdpbaa
