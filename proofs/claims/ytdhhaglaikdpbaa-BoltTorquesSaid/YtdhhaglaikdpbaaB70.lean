/-
  Walks. Conditions: none.
-/
import Derived.Test.YtdhhaglaikdpbaaB61
import Derived.Test.YtdhhaglaikdpbaaB64
import Derived.Test.YtdhhaglaikdpbaaB65
set_option linter.unusedVariables false
set_option linter.unusedSimpArgs false
namespace Go.Proofs.Ytdhhaglaikdpbaa
open Go.RowKit Go.SL
set_option maxHeartbeats 1000000
set_option maxRecDepth 1000000
theorem right_split {ld th hd ot0 ot1 oh0 oh1 st0 st1 sp0 sp1 yi0 yi1 w0 w1 x0 x1 : Int} {G : Prop} (eb : boltB ld th hd ot0 ot1 oh0 oh1 st0 st1 sp0 sp1 yi0 yi1 = true) (Ga : Hold (∀ ro, Cr Try.prog 25 #[.agg #[.int .i64 ld, .int .i64 th, .int .i64 hd, .int .i64 ot0, .int .i64 ot1, .int .i64 oh0, .int .i64 oh1, .int .i64 st0, .int .i64 st1, .int .i64 sp0, .int .i64 sp1, .int .i64 yi0, .int .i64 yi1], .agg #[.int .i64 w0, .int .i64 w1], .agg #[.int .i64 x0, .int .i64 x1]] ro (.tuple #[.agg #[.int .i64 0, .int .i64 0], .int .i64 3])) → Hold (∀ ro, Cr Try.prog 22 #[.agg #[.int .i64 w0, .int .i64 w1], .int .i64 0, .int .i64 100000000] ro (.bool false)) → G) (Gb : Hold (∀ ro, Cr Try.prog 25 #[.agg #[.int .i64 ld, .int .i64 th, .int .i64 hd, .int .i64 ot0, .int .i64 ot1, .int .i64 oh0, .int .i64 oh1, .int .i64 st0, .int .i64 st1, .int .i64 sp0, .int .i64 sp1, .int .i64 yi0, .int .i64 yi1], .agg #[.int .i64 w0, .int .i64 w1], .agg #[.int .i64 x0, .int .i64 x1]] ro (.tuple #[.agg #[.int .i64 0, .int .i64 0], .int .i64 3])) → Hold (∀ ro, Cr Try.prog 22 #[.agg #[.int .i64 w0, .int .i64 w1], .int .i64 0, .int .i64 100000000] ro (.bool true)) → Hold (∀ ro, Cr Try.prog 22 #[.agg #[.int .i64 x0, .int .i64 x1], .int .i64 (-10000000000000), .int .i64 10000000000000] ro (.bool false)) → G)
    (Gc : ∀ L H : Int, Hold (∀ ro, Cr Try.prog 25 #[.agg #[.int .i64 ld, .int .i64 th, .int .i64 hd, .int .i64 ot0, .int .i64 ot1, .int .i64 oh0, .int .i64 oh1, .int .i64 st0, .int .i64 st1, .int .i64 sp0, .int .i64 sp1, .int .i64 yi0, .int .i64 yi1], .agg #[.int .i64 w0, .int .i64 w1], .agg #[.int .i64 x0, .int .i64 x1]] ro (.tuple #[.agg #[.int .i64 0, .int .i64 0], .int .i64 9])) → Hold (∀ ro, Cr Try.prog 22 #[.agg #[.int .i64 w0, .int .i64 w1], .int .i64 0, .int .i64 100000000] ro (.bool true)) → Hold (∀ ro, Cr Try.prog 22 #[.agg #[.int .i64 x0, .int .i64 x1], .int .i64 (-10000000000000), .int .i64 10000000000000] ro (.bool true)) → Hold (∀ ro, Cr Try.prog 28 #[.agg #[.int .i64 ld, .int .i64 th, .int .i64 hd, .int .i64 ot0, .int .i64 ot1, .int .i64 oh0, .int .i64 oh1, .int .i64 st0, .int .i64 st1, .int .i64 sp0, .int .i64 sp1, .int .i64 yi0, .int .i64 yi1], .agg #[.int .i64 w0, .int .i64 w1], .agg #[.int .i64 x0, .int .i64 x1]] ro (.agg #[.int .i64 L, .int .i64 H])) → (L > H) = True → G) (Gd : ∀ L H : Int, Hold (∀ ro, Cr Try.prog 25 #[.agg #[.int .i64 ld, .int .i64 th, .int .i64 hd, .int .i64 ot0, .int .i64 ot1, .int .i64 oh0, .int .i64 oh1, .int .i64 st0, .int .i64 st1, .int .i64 sp0, .int .i64 sp1, .int .i64 yi0, .int .i64 yi1], .agg #[.int .i64 w0, .int .i64 w1], .agg #[.int .i64 x0, .int .i64 x1]] ro (.tuple #[.agg #[.int .i64 L, .int .i64 H], .int .i64 0])) → Hold (∀ ro, Cr Try.prog 22 #[.agg #[.int .i64 w0, .int .i64 w1], .int .i64 0, .int .i64 100000000] ro (.bool true)) → Hold (∀ ro, Cr Try.prog 22 #[.agg #[.int .i64 x0, .int .i64 x1], .int .i64 (-10000000000000), .int .i64 10000000000000] ro (.bool true)) → Hold (∀ ro, Cr Try.prog 28 #[.agg #[.int .i64 ld, .int .i64 th, .int .i64 hd, .int .i64 ot0, .int .i64 ot1, .int .i64 oh0, .int .i64 oh1, .int .i64 st0, .int .i64 st1, .int .i64 sp0, .int .i64 sp1, .int .i64 yi0, .int .i64 yi1], .agg #[.int .i64 w0, .int .i64 w1], .agg #[.int .i64 x0, .int .i64 x1]] ro (.agg #[.int .i64 L, .int .i64 H])) → (L > H) = False → G) : G := by
  have bk := boltB_iff.1 eb
  have e1 : checkV ld th hd ot0 ot1 oh0 oh1 st0 st1 sp0 sp1 yi0 yi1 = 0 := by unfold checkV; rw [eb]; rfl
  have hR := fun ro => RightB ro ld th hd ot0 ot1 oh0 oh1 st0 st1 sp0 sp1 yi0 yi1 w0 w1 x0 x1
  have h1 := fun ro => refSpan_ok ro 0 100000000 w0 w1
  have h2 := fun ro => refSpan_ok ro (-10000000000000) 10000000000000 x0 x1
  cases ew : spB 0 100000000 w0 w1 with
  | false =>
    have e3 : rightE ld th hd ot0 ot1 oh0 oh1 st0 st1 sp0 sp1 yi0 yi1 w0 w1 x0 x1 = 3 := by unfold rightE; rw [if_pos e1, ew]; rfl
    simp only [RA, RB, e3, show ¬ ((3 : Int) = 0) by decide, if_false] at hR
    rw [ew] at h1
    exact Ga ⟨hR⟩ ⟨h1⟩
  | true =>
    rw [ew] at h1
    cases ex : spB (-10000000000000) 10000000000000 x0 x1 with
    | false =>
      have e3 : rightE ld th hd ot0 ot1 oh0 oh1 st0 st1 sp0 sp1 yi0 yi1 w0 w1 x0 x1 = 3 := by unfold rightE; rw [if_pos e1, ew, ex]; rfl
      simp only [RA, RB, e3, show ¬ ((3 : Int) = 0) by decide, if_false] at hR
      rw [ex] at h2
      exact Gb ⟨hR⟩ ⟨h1⟩ ⟨h2⟩
    | true =>
      rw [ex] at h2
      have e3 : rightE ld th hd ot0 ot1 oh0 oh1 st0 st1 sp0 sp1 yi0 yi1 w0 w1 x0 x1 = rE (leastV ld th hd ot1 oh1 w0) (mostV ld th hd ot0 oh0 w1 yi0) x0 x1 := by unfold rightE; rw [if_pos e1, ew, ex]; rfl
      have hE := halve_E (leastV ld th hd ot1 oh1 w0) (mostV ld th hd ot0 oh0 w1 yi0) x0 x1
      have hQ := fun ro => refRight_ok ro ld th hd ot0 ot1 oh0 oh1 st0 st1 sp0 sp1 yi0 yi1 w0 w1 x0 x1 bk (spB_iff.1 ew) (spB_iff.1 ex)
      rw [RA, RB, e3] at hR
      unfold rE rA rB at hR
      by_cases hlt : rHi (mostV ld th hd ot0 oh0 w1 yi0) x1 < rLo (leastV ld th hd ot1 oh1 w0) x0
      · simp only [if_pos hlt, show ¬ ((9 : Int) = 0) by decide, if_false] at hR
        exact Gc _ _ ⟨hR⟩ ⟨h1⟩ ⟨h2⟩ ⟨hQ⟩ (by simp only [eq_iff_iff, iff_true]; exact hE.1.2 hlt)
      · simp only [if_neg hlt, if_true] at hR
        have he := hE.2 hlt
        rw [← he.1, ← he.2] at hR
        exact Gd _ _ ⟨hR⟩ ⟨h1⟩ ⟨h2⟩ ⟨hQ⟩ (by simp only [eq_iff_iff, iff_false]; exact fun h => hlt (hE.1.1 h))
theorem boltTorques_ok (ro : Addr → Option Value) (ld th hd ot0 ot1 oh0 oh1 st0 st1 sp0 sp1 yi0 yi1 fo o0 o1 w0 w1 x0 x1 : Int) : Cr Try.prog 4 #[.agg #[.int .i64 ld, .int .i64 th, .int .i64 hd, .int .i64 ot0, .int .i64 ot1, .int .i64 oh0, .int .i64 oh1, .int .i64 st0, .int .i64 st1, .int .i64 sp0, .int .i64 sp1, .int .i64 yi0, .int .i64 yi1], .agg #[.int .i64 fo, .int .i64 o0, .int .i64 o1, .int .i64 w0, .int .i64 w1, .int .i64 x0, .int .i64 x1]] ro (.bool true) := by
  have hT := fun ro => TorqueB ro ld th hd ot0 ot1 oh0 oh1 st0 st1 sp0 sp1 yi0 yi1 fo o0 o1
  have hk := fun ro => refKind_ok ro ld th hd ot0 ot1 oh0 oh1 st0 st1 sp0 sp1 yi0 yi1
  cases eb : boltB ld th hd ot0 ot1 oh0 oh1 st0 st1 sp0 sp1 yi0 yi1 with
  | false =>
    have hR := fun ro => RightB ro ld th hd ot0 ot1 oh0 oh1 st0 st1 sp0 sp1 yi0 yi1 w0 w1 x0 x1
    have e1 : checkV ld th hd ot0 ot1 oh0 oh1 st0 st1 sp0 sp1 yi0 yi1 = 2 := by unfold checkV; rw [eb]; rfl
    have e2 : torqueE ld th hd ot0 ot1 oh0 oh1 st0 st1 sp0 sp1 yi0 yi1 fo o0 o1 = 2 := by unfold torqueE; rw [if_neg (by omega)]
    have e3 : rightE ld th hd ot0 ot1 oh0 oh1 st0 st1 sp0 sp1 yi0 yi1 w0 w1 x0 x1 = 2 := by unfold rightE; rw [if_neg (by omega)]
    simp only [torqueV, e2, show ¬ ((2 : Int) = 0) by decide, if_false] at hT
    simp only [RA, RB, e3, show ¬ ((2 : Int) = 0) by decide, if_false] at hR
    rw [eb] at hk
    exact boltTorques_A ro ld th hd ot0 ot1 oh0 oh1 st0 st1 sp0 sp1 yi0 yi1 fo o0 o1 w0 w1 x0 x1 ⟨hT⟩ ⟨hR⟩ ⟨hk⟩
  | true =>
    have bk := boltB_iff.1 eb
    have e1 : checkV ld th hd ot0 ot1 oh0 oh1 st0 st1 sp0 sp1 yi0 yi1 = 0 := by unfold checkV; rw [eb]; rfl
    rw [eb] at hk
    cases ef : inB fo 0 100000000 with
    | false =>
      have e2 : torqueE ld th hd ot0 ot1 oh0 oh1 st0 st1 sp0 sp1 yi0 yi1 fo o0 o1 = 3 := by
        unfold torqueE
        rw [if_pos e1, if_neg]
        intro h
        simp [allI] at h
        simp [inB] at ef
        omega
      simp only [torqueV, e2, show ¬ ((3 : Int) = 0) by decide, if_false] at hT
      exact right_split eb (fun hR h1 => boltTorques_aa ro ld th hd ot0 ot1 oh0 oh1 st0 st1 sp0 sp1 yi0 yi1 fo o0 o1 w0 w1 x0 x1 ⟨hT⟩ hR ⟨hk⟩ ef h1) (fun hR h1 h2 => boltTorques_ab ro ld th hd ot0 ot1 oh0 oh1 st0 st1 sp0 sp1 yi0 yi1 fo o0 o1 w0 w1 x0 x1 ⟨hT⟩ hR ⟨hk⟩ ef h1 h2)
        (fun L H hR h1 h2 hQ p => boltTorques_ac ro ld th hd ot0 ot1 oh0 oh1 st0 st1 sp0 sp1 yi0 yi1 fo o0 o1 w0 w1 x0 x1 L H ⟨hT⟩ hR ⟨hk⟩ ef h1 h2 hQ p) (fun L H hR h1 h2 hQ p => boltTorques_ad ro ld th hd ot0 ot1 oh0 oh1 st0 st1 sp0 sp1 yi0 yi1 fo o0 o1 w0 w1 x0 x1 L H ⟨hT⟩ hR ⟨hk⟩ ef h1 h2 hQ p)
    | true =>
      have ff := inB_iff.1 ef
      have af : allI 0 100000000 [fo] = true := by simp [allI]; omega
      cases ea : inB o0 0 1000 with
      | false =>
        have e2 : torqueE ld th hd ot0 ot1 oh0 oh1 st0 st1 sp0 sp1 yi0 yi1 fo o0 o1 = 2 := by
          unfold torqueE
          rw [if_pos e1, if_pos af, if_neg]
          intro h
          simp [allI] at h
          simp [inB] at ea
          omega
        simp only [torqueV, e2, show ¬ ((2 : Int) = 0) by decide, if_false] at hT
        exact right_split eb (fun hR h1 => boltTorques_ba ro ld th hd ot0 ot1 oh0 oh1 st0 st1 sp0 sp1 yi0 yi1 fo o0 o1 w0 w1 x0 x1 ⟨hT⟩ hR ⟨hk⟩ ef ea h1) (fun hR h1 h2 => boltTorques_bb ro ld th hd ot0 ot1 oh0 oh1 st0 st1 sp0 sp1 yi0 yi1 fo o0 o1 w0 w1 x0 x1 ⟨hT⟩ hR ⟨hk⟩ ef ea h1 h2)
          (fun L H hR h1 h2 hQ p => boltTorques_bc ro ld th hd ot0 ot1 oh0 oh1 st0 st1 sp0 sp1 yi0 yi1 fo o0 o1 w0 w1 x0 x1 L H ⟨hT⟩ hR ⟨hk⟩ ef ea h1 h2 hQ p) (fun L H hR h1 h2 hQ p => boltTorques_bd ro ld th hd ot0 ot1 oh0 oh1 st0 st1 sp0 sp1 yi0 yi1 fo o0 o1 w0 w1 x0 x1 L H ⟨hT⟩ hR ⟨hk⟩ ef ea h1 h2 hQ p)
      | true =>
        have fa := inB_iff.1 ea
        cases ec : inB o1 0 1000 with
        | false =>
          have e2 : torqueE ld th hd ot0 ot1 oh0 oh1 st0 st1 sp0 sp1 yi0 yi1 fo o0 o1 = 2 := by
            unfold torqueE
            rw [if_pos e1, if_pos af, if_neg]
            intro h
            simp [allI] at h
            simp [inB] at ec
            omega
          simp only [torqueV, e2, show ¬ ((2 : Int) = 0) by decide, if_false] at hT
          exact right_split eb (fun hR h1 => boltTorques_ca ro ld th hd ot0 ot1 oh0 oh1 st0 st1 sp0 sp1 yi0 yi1 fo o0 o1 w0 w1 x0 x1 ⟨hT⟩ hR ⟨hk⟩ ef ea ec h1) (fun hR h1 h2 => boltTorques_cb ro ld th hd ot0 ot1 oh0 oh1 st0 st1 sp0 sp1 yi0 yi1 fo o0 o1 w0 w1 x0 x1 ⟨hT⟩ hR ⟨hk⟩ ef ea ec h1 h2)
            (fun L H hR h1 h2 hQ p => boltTorques_cc ro ld th hd ot0 ot1 oh0 oh1 st0 st1 sp0 sp1 yi0 yi1 fo o0 o1 w0 w1 x0 x1 L H ⟨hT⟩ hR ⟨hk⟩ ef ea ec h1 h2 hQ p) (fun L H hR h1 h2 hQ p => boltTorques_cd ro ld th hd ot0 ot1 oh0 oh1 st0 st1 sp0 sp1 yi0 yi1 fo o0 o1 w0 w1 x0 x1 L H ⟨hT⟩ hR ⟨hk⟩ ef ea ec h1 h2 hQ p)
        | true =>
          have fc := inB_iff.1 ec
          have e2 : torqueE ld th hd ot0 ot1 oh0 oh1 st0 st1 sp0 sp1 yi0 yi1 fo o0 o1 = 0 := by
            unfold torqueE
            rw [if_pos e1, if_pos af, if_pos]
            simp [allI]; omega
          simp only [torqueV, e2, if_true] at hT
          have hA : Hold (∀ ro, Cr Try.prog 27 #[.agg #[.int .i64 ld, .int .i64 th, .int .i64 hd, .int .i64 ot0, .int .i64 ot1, .int .i64 oh0, .int .i64 oh1, .int .i64 st0, .int .i64 st1, .int .i64 sp0, .int .i64 sp1, .int .i64 yi0, .int .i64 yi1], .agg #[.int .i64 o0, .int .i64 o1]] ro (.int .i64 (armV ld th hd o0 o1))) := ⟨fun ro => refArm_ok ro ld th hd ot0 ot1 oh0 oh1 st0 st1 sp0 sp1 yi0 yi1 o0 o1 bk fa fc⟩
          have ab := arm_bd ld th hd o0 o1 bk.hl bk.ht bk.hh fa fc
          have m1 := mul_bd (a := fo) (b := armV ld th hd o0 o1) (A := 100000000) (B := 300000000) (by omega) (by omega) (by omega) (by omega)
          have m2 : 0 ≤ fo * armV ld th hd o0 o1 := Int.mul_nonneg ff.1 (by omega)
          have eq : tqV ld th hd o0 o1 fo = ceilV (fo * armV ld th hd o0 o1) 1000 := rfl
          unfold ceilV at eq
          generalize armV ld th hd o0 o1 = arm at *
          generalize tqV ld th hd o0 o1 fo = q at *
          generalize hM : fo * arm = M at *
          have v1 : IntKind.i64.wrap (1000 * q) = 1000 * q := IntWalk.i64_in _ (by omega)
          have v2 : IntKind.i64.wrap (fo * arm) = fo * arm := IntWalk.i64_in _ (by omega)
          have v3 : IntKind.i64.wrap (q - 1) = q - 1 := IntWalk.i64_in _ (by omega)
          have v4 : IntKind.i64.wrap (1000 * (q - 1)) = 1000 * (q - 1) := IntWalk.i64_in _ (by omega)
          have d1 : (q < 0) = False := by simp only [eq_iff_iff, iff_false]; omega
          have d2 : (1000 * q < fo * arm) = False := by simp only [eq_iff_iff, iff_false]; omega
          by_cases hq : q > 0
          · have d3 : (q > 0) = True := by simp only [eq_iff_iff, iff_true]; exact hq
            have d4 : (1000 * (q - 1) ≥ fo * arm) = False := by simp only [eq_iff_iff, iff_false]; omega
            exact right_split eb (fun hR h1 => boltTorques_da ro ld th hd ot0 ot1 oh0 oh1 st0 st1 sp0 sp1 yi0 yi1 fo o0 o1 w0 w1 x0 x1 q arm ⟨hT⟩ hR ⟨hk⟩ ef ea ec hA v1 v2 v3 v4 d1 d2 d3 d4 h1) (fun hR h1 h2 => boltTorques_db ro ld th hd ot0 ot1 oh0 oh1 st0 st1 sp0 sp1 yi0 yi1 fo o0 o1 w0 w1 x0 x1 q arm ⟨hT⟩ hR ⟨hk⟩ ef ea ec hA v1 v2 v3 v4 d1 d2 d3 d4 h1 h2)
              (fun L H hR h1 h2 hQ p => boltTorques_dc ro ld th hd ot0 ot1 oh0 oh1 st0 st1 sp0 sp1 yi0 yi1 fo o0 o1 w0 w1 x0 x1 q arm L H ⟨hT⟩ hR ⟨hk⟩ ef ea ec hA v1 v2 v3 v4 d1 d2 d3 d4 h1 h2 hQ p) (fun L H hR h1 h2 hQ p => boltTorques_dd ro ld th hd ot0 ot1 oh0 oh1 st0 st1 sp0 sp1 yi0 yi1 fo o0 o1 w0 w1 x0 x1 q arm L H ⟨hT⟩ hR ⟨hk⟩ ef ea ec hA v1 v2 v3 v4 d1 d2 d3 d4 h1 h2 hQ p)
          · have d3 : (q > 0) = False := by simp only [eq_iff_iff, iff_false]; exact hq
            exact right_split eb (fun hR h1 => boltTorques_ea ro ld th hd ot0 ot1 oh0 oh1 st0 st1 sp0 sp1 yi0 yi1 fo o0 o1 w0 w1 x0 x1 q arm ⟨hT⟩ hR ⟨hk⟩ ef ea ec hA v1 v2 d1 d2 d3 h1) (fun hR h1 h2 => boltTorques_eb ro ld th hd ot0 ot1 oh0 oh1 st0 st1 sp0 sp1 yi0 yi1 fo o0 o1 w0 w1 x0 x1 q arm ⟨hT⟩ hR ⟨hk⟩ ef ea ec hA v1 v2 d1 d2 d3 h1 h2)
              (fun L H hR h1 h2 hQ p => boltTorques_ec ro ld th hd ot0 ot1 oh0 oh1 st0 st1 sp0 sp1 yi0 yi1 fo o0 o1 w0 w1 x0 x1 q arm L H ⟨hT⟩ hR ⟨hk⟩ ef ea ec hA v1 v2 d1 d2 d3 h1 h2 hQ p) (fun L H hR h1 h2 hQ p => boltTorques_ed ro ld th hd ot0 ot1 oh0 oh1 st0 st1 sp0 sp1 yi0 yi1 fo o0 o1 w0 w1 x0 x1 q arm L H ⟨hT⟩ hR ⟨hk⟩ ef ea ec hA v1 v2 d1 d2 d3 h1 h2 hQ p)

end Go.Proofs.Ytdhhaglaikdpbaa
