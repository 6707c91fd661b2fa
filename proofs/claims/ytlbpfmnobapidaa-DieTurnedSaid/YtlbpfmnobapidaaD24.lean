/-
  Walks. Conditions: none.
-/
import Derived.Test.YtlbpfmnobapidaaD23
set_option linter.unusedVariables false
set_option linter.unusedSimpArgs false
namespace Go.Proofs.Ytlbpfmnobapidaa
open Go.RowKit Go.SL
set_option maxHeartbeats 1000000
set_option maxRecDepth 1000000
attribute [local go_sem] fl_getD fl_get fl_set lk_def st_def gL_nil gL_zero gL_succ sL_nil_zero sL_nil_succ sL_zero sL_succ Option.getD_none FgK_app onlyL_nil onlyL_none onlyL_some setO_some toB_bool toB_undef yl_def
attribute [local go_sem high] GuardK_yl GuardL_yl
attribute [local go_sem] initL_one initL_cons lastL_one lastL_cons LastK_app fin_round Fr.inr_w0 Fr.inr_ro Fr.inr_M cell_inr LoopO_some YieldK_some RoundQ_normal RoundQ_ret RoundQ_exit EndR_none EndR_some BegK_app BegR_some OutR_none OutR_ret OutR_exit LeftR_some LeftK_app
/-! ### The document's example -/
def kW : List (Int × Int) := [(10, 20), (50, 100)]
def kO : List Ord := [Ord.mk 200 0 100000 110000, Ord.mk 100 1 100000 110000]
theorem k_chk : chkV (-1000) 1000 (-500) 500 kW kO = 0 := by decide +kernel
theorem k_tool : toolE (-1000) 1000 (-500) 500 kW = 0 := by decide +kernel
theorem k_all : allN kO = 300 := by decide +kernel
theorem k_w : ((wP kW kO 200).1 - (wP kW kO 0).1, (wP kW kO 200).2 - (wP kW kO 0).2) = (2000, 4000) := by decide +kernel
theorem k_can : canV (-1000) 1000 (-500) 500 kW kO ((0 : Nat) : Int) ((200 : Nat) : Int) = true := by decide +kernel
theorem k_t : tgF (-1000) 1000 (-500) 500 kW kO ((0 : Nat) : Int) ((200 : Nat) : Int) = (101500, 104520) := by decide +kernel
theorem k_r0 : reachV (-1000) 1000 (-500) 500 kW kO 0 = 231 := by
  unfold reachV
  rw [k_all, firstP_eq (i := 231) (by decide) (by decide +kernel) (by decide +kernel)]
theorem k_r1 : reachV (-1000) 1000 (-500) 500 kW kO 231 = 300 := by
  unfold reachV
  rw [k_all, firstP_eq (i := 69) (by decide) (by decide +kernel) (by decide +kernel)]
theorem k_a0 : aimV false (-1000) 1000 (-500) 500 kW kO 0 = 101500 := by
  unfold aimV
  rw [k_r0]
  decide +kernel
theorem k_a1 : aimV false (-1000) 1000 (-500) 500 kW kO 231 = 101500 := by
  unfold aimV
  rw [k_r1]
  decide +kernel
theorem k_plan : planV false (-1000) 1000 (-500) 500 kW kO = [(0, 101500), (231, 101500)] := by
  unfold planV
  rw [k_all, show (300 : Nat) = 297 + 1 + 1 + 1 from rfl, planF, k_r0, if_pos (by rw [k_all]; decide), k_a0, planF, k_r1, if_pos (by rw [k_all]; decide), k_a1, planF, if_neg (by rw [k_all]; decide)]
  rfl
theorem k_end : endV (-1000) 1000 (-500) 500 kW kO = 300 := by
  unfold endV
  have e : reachV (-1000) 1000 (-500) 500 kW kO 300 = 300 := by
    have := @reach_all (-1000) 1000 (-500) 500 kW kO
    rwa [k_all] at this
  rw [k_all, show (300 : Nat) = 298 + 1 + 1 from rfl, stepN, k_r0, stepN, k_r1, stepN_fix e]
theorem k_most : stepN (-1000) 1000 (-500) 500 kW kO 1 0 = 231 := by
  rw [stepN, k_r0, stepN]
theorem k_jug : judL false (-1000) 1000 (-500) 500 kW kO [(0, 102000)] = 226 := by
  rw [judL, k_all]
  unfold jugV
  rw [firstP_eq (i := 226) (by decide) (by decide +kernel) (by decide +kernel)]
  decide
theorem k_p1 : prvL (canV (-1000) 1000 (-500) 500 kW kO) 0 [0, 231] = -1 := by decide +kernel
theorem k_p0 : prvL (canV (-1000) 1000 (-500) 500 kW kO) 0 [0, 230] = 0 := by decide +kernel
theorem k_look : lookV false 102400 103600 (-500) 500 100000 110000 ((kW.getD 1 (0, 0)).2) = 60 := by
  unfold lookV
  rw [if_neg (by decide +kernel), firstP_eq (i := 60) (by decide) (by decide +kernel) (by decide +kernel)]

end Go.Proofs.Ytlbpfmnobapidaa
