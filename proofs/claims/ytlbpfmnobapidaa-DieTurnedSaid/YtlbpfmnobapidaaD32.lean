/-
  Walks. Conditions: none.
-/
import Derived.Test.YtlbpfmnobapidaaD31
set_option linter.unusedVariables false
set_option linter.unusedSimpArgs false
namespace Go.Proofs.Ytlbpfmnobapidaa
open Go.RowKit Go.SL
set_option maxHeartbeats 1000000
set_option maxRecDepth 1000000
attribute [local go_sem] fl_getD fl_get fl_set lk_def st_def gL_nil gL_zero gL_succ sL_nil_zero sL_nil_succ sL_zero sL_succ Option.getD_none FgK_app onlyL_nil onlyL_none onlyL_some setO_some toB_bool toB_undef yl_def
attribute [local go_sem high] GuardK_yl GuardL_yl
attribute [local go_sem] initL_one initL_cons lastL_one lastL_cons LastK_app fin_round Fr.inr_w0 Fr.inr_ro Fr.inr_M cell_inr LoopO_some YieldK_some RoundQ_normal RoundQ_ret RoundQ_exit EndR_none EndR_some BegK_app BegR_some OutR_none OutR_ret OutR_exit LeftR_some LeftK_app
attribute [local go_sem] i64w
attribute [local go_sem] dwp_eqGuardE dwp_eqGuardN rval_eqGuardE rval_eqGuardN
attribute [local go_sem] add_none
/-- What a shop of bytes is. -/
structure ShopIn (ro : Addr → Option Value) (a0 a1 : Int) (pW : Option Addr) (nW : Nat) (pO : Option Addr) (nO : Nat) (wl : List (Int × Int)) (ol : List Q4) : Prop where
  hx : RdS ro pW nW 2 (wl.flatMap u8C)
  hB : ∀ w ∈ wl, Byte w.1 ∧ Byte w.2
  hA : Byte a0 ∧ Byte a1
  hn : nW ≤ 9223372036854775807
  hy : RdS ro pO nO 4 (ol.flatMap u8D)
  hC : ∀ q ∈ ol, Byte4 q
  hm : nO ≤ 9223372036854775807
theorem toolN_bd (wl : List (Int × Int)) : 1 ≤ toolN wl ∧ toolN wl ≤ 3 := by unfold toolN; omega
theorem ordN_bd (ol : List Q4) : 1 ≤ ordN ol ∧ ordN ol ≤ 5 := by unfold ordN; omega
theorem shop_chk {ro : Addr → Option Value} {a0 a1 : Int} {pW : Option Addr} {nW : Nat} {pO : Option Addr} {nO : Nat} {wl : List (Int × Int)} {ol : List Q4} (h : ShopIn ro a0 a1 pW nW pO nO wl ol) :
    chkV (-(a0 % 20)) (a0 / 16) (-(a1 % 10)) (a1 / 32) (toolW wl (toolN wl)) (ordL (toolN wl) ol (ordN ol)) = 0 := by
  have b1 := toolN_bd wl
  have b2 := ordN_bd ol
  have a := h.hA
  unfold Byte at a
  refine chk_ok (by rw [toolW_len]; omega) (by rw [spB_iff]; omega) (by rw [spB_iff]; omega) (toolW_bd h.hB _) (by rw [ordL_len]; omega) fun o ho => ?_
  have := ordL_bd h.hC (toolN wl) (ordN ol) b1.1 o ho
  rw [spB_iff, toolW_len]
  omega
theorem shop_chkT {ro : Addr → Option Value} {a0 a1 : Int} {pW : Option Addr} {nW : Nat} {pO : Option Addr} {nO : Nat} {wl : List (Int × Int)} {ol : List Q4} (h : ShopIn ro a0 a1 pW nW pO nO wl ol) :
    chkV (0 - a0 / 16) (0 - -(a0 % 20)) (0 - a1 / 32) (0 - -(a1 % 10)) (toolW wl (toolN wl)) ((ordL (toolN wl) ol (ordN ol)).map mvO) = 0 := by
  have b1 := toolN_bd wl
  have b2 := ordN_bd ol
  have a := h.hA
  unfold Byte at a
  refine chk_ok (by rw [toolW_len]; omega) (by rw [spB_iff]; omega) (by rw [spB_iff]; omega) (toolW_bd h.hB _) (by rw [List.length_map, ordL_len]; omega) fun o ho => ?_
  obtain ⟨x, hx, rfl⟩ := List.mem_map.1 ho
  have := ordL_bd h.hC (toolN wl) (ordN ol) b1.1 x hx
  rw [spB_iff, toolW_len]
  unfold mvO
  dsimp only
  omega
theorem dieTurned_ok (ro : Addr → Option Value) (dn : Bool) (a0 a1 : Int) (pW : Option Addr) (nW cW : Nat) (pO : Option Addr) (nO cO : Nat) (pT : Option Addr) (nT cT : Nat) (t0 t1 : Int) (wl : List (Int × Int)) (ol : List Q4) (h : ShopIn ro a0 a1 pW nW pO nO wl ol) (hat : Byte t0 ∧ Byte t1) :
    Cr Try.prog 12 #[.agg #[.bool dn, .int .u8 a0, .int .u8 a1, .slice pW nW cW, .slice pO nO cO, .slice pT nT cT], .agg #[.int .u8 t0, .int .u8 t1]] ro (.bool true) := by
  have b1 := toolN_bd wl
  have b2 := ordN_bd ol
  have a := h.hA
  unfold Byte at a
  refine turned_core ro dn a0 a1 pW nW cW pO nO cO pT nT cT t0 t1 (-(a0 % 20)) (a0 / 16) (-(a1 % 10)) (a1 / 32) (toolN wl) (ordN ol) (toolW wl (toolN wl)) (ordL (toolN wl) ol (ordN ol)) ⟨fun F hF h' K hK => ?_⟩ ⟨fun F hF h' K hK => ?_⟩ ⟨toolW_len _ _⟩ ⟨ordL_len _ _ _⟩ ⟨by omega⟩ ⟨by omega⟩ ⟨by omega⟩ ⟨fun o ho => ?_⟩ ⟨hat⟩ ⟨shop_chk h⟩ ⟨shop_chkT h⟩
  · exact stool_R F h' K dn a0 a1 pW nW cW pO nO cO pT nT cT wl ⟨by rw [hF]; exact h.hx⟩ ⟨h.hB⟩ ⟨h.hA⟩ ⟨h.hn⟩ hK
  · exact sorders_R F h' K dn a0 a1 pW nW cW pO nO cO pT nT cT wl ol ⟨by rw [hF]; exact h.hx⟩ ⟨h.hB⟩ ⟨h.hA⟩ ⟨h.hn⟩ ⟨by rw [hF]; exact h.hy⟩ ⟨h.hC⟩ ⟨h.hm⟩ hK
  · have := ordL_bd h.hC (toolN wl) (ordN ol) b1.1 o ho
    omega

end Go.Proofs.Ytlbpfmnobapidaa
