/-
  Walks. Conditions: none.
-/
import Derived.Test.YtlblahfndlgfmaaB22
set_option linter.unusedVariables false
set_option linter.unusedSimpArgs false
namespace Go.Proofs.Ytlblahfndlgfmaa
open Go.RowKit Go.SL
set_option maxHeartbeats 1000000
set_option maxRecDepth 1000000
attribute [local go_sem] i64w
attribute [local go_sem] dwp_eqGuardE dwp_eqGuardN rval_eqGuardE rval_eqGuardN
attribute [local go_sem] Option.map_none
theorem ForceOk (ro : Addr → Option Value) (ld th hd ot0 ot1 oh0 oh1 st0 st1 sp0 sp1 yi0 yi1 k t0 t1 a0 a1 s0 s1 : Int) (hv : BoltOk ld th hd ot0 ot1 oh0 oh1 st0 st1 sp0 sp1 yi0 yi1) (hw : wayB k t0 t1 a0 a1 s0 s1 = true) :
    Cr Try.prog 27 #[.agg #[.int .i64 ld, .int .i64 th, .int .i64 hd, .int .i64 ot0, .int .i64 ot1, .int .i64 oh0, .int .i64 oh1, .int .i64 st0, .int .i64 st1, .int .i64 sp0, .int .i64 sp1, .int .i64 yi0, .int .i64 yi1], .agg #[.int .i64 k, .int .i64 t0, .int .i64 t1, .int .i64 a0, .int .i64 a1, .int .i64 s0, .int .i64 s1]] ro (.tuple #[.agg #[.int .i64 (fLo ld th hd ot0 ot1 oh0 oh1 st0 st1 sp0 sp1 yi0 yi1 k t0 t1 a0 a1 s0 s1), .int .i64 (fHi ld th hd ot0 ot1 oh0 oh1 st0 st1 sp0 sp1 yi0 yi1 k t0 t1 a0 a1 s0 s1)], .int .i64 0]) := by
  have hz : openV ld th hd ot0 ot1 oh0 oh1 st0 st1 sp0 sp1 yi0 yi1 (!(wayB k t0 t1 a0 a1 s0 s1)) = 0 := by unfold openV; rw [boltB_iff.2 hv, hw]; rfl
  have := ForceB ro ld th hd ot0 ot1 oh0 oh1 st0 st1 sp0 sp1 yi0 yi1 k t0 t1 a0 a1 s0 s1
  unfold FA FB at this
  rwa [hz, if_pos rfl, if_pos rfl] at this
def leftE (ld th hd ot0 ot1 oh0 oh1 st0 st1 sp0 sp1 yi0 yi1 k t0 t1 a0 a1 s0 s1 l0 l1 : Int) : Int := if openV ld th hd ot0 ot1 oh0 oh1 st0 st1 sp0 sp1 yi0 yi1 (!(wayB k t0 t1 a0 a1 s0 s1)) = 0 then (if spB 0 100000000 l0 l1 then 0 else 3) else 2
def LA (ld th hd ot0 ot1 oh0 oh1 st0 st1 sp0 sp1 yi0 yi1 k t0 t1 a0 a1 s0 s1 l0 l1 : Int) : Int := if leftE ld th hd ot0 ot1 oh0 oh1 st0 st1 sp0 sp1 yi0 yi1 k t0 t1 a0 a1 s0 s1 l0 l1 = 0 then max 0 (fLo ld th hd ot0 ot1 oh0 oh1 st0 st1 sp0 sp1 yi0 yi1 k t0 t1 a0 a1 s0 s1 - l1) else 0
def LB (ld th hd ot0 ot1 oh0 oh1 st0 st1 sp0 sp1 yi0 yi1 k t0 t1 a0 a1 s0 s1 l0 l1 : Int) : Int := if leftE ld th hd ot0 ot1 oh0 oh1 st0 st1 sp0 sp1 yi0 yi1 k t0 t1 a0 a1 s0 s1 l0 l1 = 0 then max 0 (fHi ld th hd ot0 ot1 oh0 oh1 st0 st1 sp0 sp1 yi0 yi1 k t0 t1 a0 a1 s0 s1 - l0) else 0
def SA (ld th hd ot0 ot1 oh0 oh1 st0 st1 sp0 sp1 yi0 yi1 k t0 t1 a0 a1 s0 s1 : Int) : Bool := if openV ld th hd ot0 ot1 oh0 oh1 st0 st1 sp0 sp1 yi0 yi1 (!(wayB k t0 t1 a0 a1 s0 s1)) = 0 then decide (fHi ld th hd ot0 ot1 oh0 oh1 st0 st1 sp0 sp1 yi0 yi1 k t0 t1 a0 a1 s0 s1 ≤ yi0) else false
def SB (ld th hd ot0 ot1 oh0 oh1 st0 st1 sp0 sp1 yi0 yi1 k t0 t1 a0 a1 s0 s1 : Int) : Bool := if openV ld th hd ot0 ot1 oh0 oh1 st0 st1 sp0 sp1 yi0 yi1 (!(wayB k t0 t1 a0 a1 s0 s1)) = 0 then decide (fLo ld th hd ot0 ot1 oh0 oh1 st0 st1 sp0 sp1 yi0 yi1 k t0 t1 a0 a1 s0 s1 ≤ yi1) else false
/-- The least torque. -/
def tqV (ld th hd o0 o1 f : Int) : Int := ceilV (f * armV ld th hd o0 o1) 1000
def torqueE (ld th hd ot0 ot1 oh0 oh1 st0 st1 sp0 sp1 yi0 yi1 f o0 o1 : Int) : Int := if checkV ld th hd ot0 ot1 oh0 oh1 st0 st1 sp0 sp1 yi0 yi1 = 0 then (if allI 0 100000000 [f] then (if allI 0 1000 [o0, o1] then 0 else 2) else 3) else 2
def torqueV (ld th hd ot0 ot1 oh0 oh1 st0 st1 sp0 sp1 yi0 yi1 f o0 o1 : Int) : Int := if torqueE ld th hd ot0 ot1 oh0 oh1 st0 st1 sp0 sp1 yi0 yi1 f o0 o1 = 0 then tqV ld th hd o0 o1 f else 0
theorem checkV_ok {ld th hd ot0 ot1 oh0 oh1 st0 st1 sp0 sp1 yi0 yi1 : Int} (h : checkV ld th hd ot0 ot1 oh0 oh1 st0 st1 sp0 sp1 yi0 yi1 = 0) : BoltOk ld th hd ot0 ot1 oh0 oh1 st0 st1 sp0 sp1 yi0 yi1 := by
  unfold checkV at h
  split at h
  · exact boltB_iff.1 (by assumption)
  · cases h
theorem checkV_eq {ld th hd ot0 ot1 oh0 oh1 st0 st1 sp0 sp1 yi0 yi1 : Int} (h : checkV ld th hd ot0 ot1 oh0 oh1 st0 st1 sp0 sp1 yi0 yi1 ≠ 0) : checkV ld th hd ot0 ot1 oh0 oh1 st0 st1 sp0 sp1 yi0 yi1 = 2 := by
  unfold checkV at h ⊢
  split at h <;> simp_all

end Go.Proofs.Ytlblahfndlgfmaa
