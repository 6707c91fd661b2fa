/-
  Walks. Conditions: none.
-/
import Derived.Test.YtlblahfndlgfmaaG12
set_option linter.unusedVariables false
set_option linter.unusedSimpArgs false
namespace Go.Proofs.Ytlblahfndlgfmaa
open Go.RowKit Go.SL
set_option maxHeartbeats 1000000
set_option maxRecDepth 1000000
attribute [local go_sem] fl_getD fl_get fl_set lk_def st_def gL_nil gL_zero gL_succ sL_nil_zero sL_nil_succ sL_zero sL_succ Option.getD_none FgK_app onlyL_nil onlyL_none onlyL_some setO_some toB_bool toB_undef yl_def
attribute [local go_sem high] GuardK_yl GuardL_yl
attribute [local go_sem] initL_one initL_cons lastL_one lastL_cons LastK_app fin_round Fr.inr_w0 Fr.inr_ro Fr.inr_M cell_inr LoopO_some YieldK_some RoundQ_normal RoundQ_ret RoundQ_exit EndR_none EndR_some BegK_app BegR_some OutR_none OutR_ret OutR_exit LeftR_some LeftK_app
attribute [local go_sem] i64w
attribute [local go_sem] dwp_eqGuardE dwp_eqGuardN rval_eqGuardE rval_eqGuardN
attribute [local go_sem] add_none
theorem cut61 {F : Fr} {h : Hp} {K : Value → Hp → Prop} {g : Nat} : dwp Try.prog F (Instr.sliceAt 31 (.slice (some ⟨g, 0, none⟩) 6 6) none (some (.int .i64 1)) none) h K = K (.slice (some ⟨g, 0, none⟩) 1 6) h := by
  simp [Instr.sliceAt, Instr.slice, Instr.sliceBounds, Instr.sliceBound, asIntOf, asInt, dwp_bind', dwp_pure', dwp_underlying, Try.underlying31, OptK_some, BindK_app, sz3, add_none]
  rw [map_eq_pure_bind, dwp_bind', sz3]
  rfl
theorem zs_bd {m n : Nat} : ∀ j, 0 ≤ shareV (List.replicate m 0) n j ∧ shareV (List.replicate m 0) n j ≤ 500 := fun j => by rw [zero_share]; decide
theorem zs_fc {n : Nat} {ka kb kc ke nd : Int} (hN : 3 ≤ n ∧ n ≤ 8) (hk : BoltOk 2000 5000 7000 ka kb kc ke 50000 60000 90 110 30000 33000) (hn : 5000 ≤ nd ∧ nd < 30000) : fcheckV n (n / 2) (List.replicate (n / 2) 0) 2000 5000 7000 ka kb kc ke 50000 60000 90 110 30000 33000 nd = 0 :=
  fcheck_zero (by omega) (fun x hx => by rw [(List.mem_replicate.1 hx).2]; decide) hk (by omega)
theorem judge_law (ro : Addr → Option Value) {n gs gp pc : Nat} {ka kb kc ke nd t : Int} (hN : 3 ≤ n ∧ n ≤ 8) (hn : 5000 ≤ nd ∧ nd < 30000) (hk : BoltOk 2000 5000 7000 ka kb kc ke 50000 60000 90 110 30000 33000) (hz : gE 2000 5000 7000 ka kb kc ke 50000 60000 90 110 30000 33000 t = 0) (hg : 0 ≤ gA 2000 5000 7000 ka kb kc ke 50000 60000 90 110 30000 33000 t ∧ 0 ≤ gB 2000 5000 7000 ka kb kc ke 50000 60000 90 110 30000 33000 t)
    (h1 : readI ro gs 0 (n / 2) = some (List.replicate (n / 2) 0)) (h2 : readV ro gp 0 (n * 2) = some ((rndP n t).flatMap spC)) :
    Cr Try.prog 10 #[.agg #[.int .i64 n, .int .i64 2000, .int .i64 5000, .int .i64 7000, .int .i64 ka, .int .i64 kb, .int .i64 kc, .int .i64 ke, .int .i64 50000, .int .i64 60000, .int .i64 90, .int .i64 110, .int .i64 30000, .int .i64 33000, .slice (some ⟨gs, 0, none⟩) ((n / 2 : Nat)) ((n / 2 : Nat)), .int .i64 nd], .slice (some ⟨gp, 0, none⟩) n pc] ro (.tuple #[.bool (decide (nd ≤ gA 2000 5000 7000 ka kb kc ke 50000 60000 90 110 30000 33000 t)), .bool (decide (gB 2000 5000 7000 ka kb kc ke 50000 60000 90 110 30000 33000 t ≤ 30000)), .int .i64 0]) := by
  have := Judge_C ro n n gs 0 (n / 2) (n / 2) gp 0 pc (List.replicate (n / 2) 0) 2000 5000 7000 ka kb kc ke 50000 60000 90 110 30000 33000 nd (rndP n t) h1 (zs_fc hN hk hn) (by omega) ⟨by omega, rndP_len n t⟩ (rndP_ok hz) zs_bd h2
  have r := round_all (nd := nd) (sh := List.replicate (n / 2) 0) (n := n) (xs := (List.range n).map fun (i : Nat) => (i : Int)) zero_share hg (by omega) rnd_mem
  rw [← rndP_ord] at r
  rw [r.1, r.2] at this
  exact this
theorem right_law0 (ro : Addr → Option Value) {n gs gb pc gt tc : Nat} {ka kb kc ke nd t : Int} (hN : 3 ≤ n ∧ n ≤ 8) (hn : 5000 ≤ nd ∧ nd < 30000) (hk : BoltOk 2000 5000 7000 ka kb kc ke 50000 60000 90 110 30000 33000) (hz : gE 2000 5000 7000 ka kb kc ke 50000 60000 90 110 30000 33000 t = 0) (hg : 0 ≤ gA 2000 5000 7000 ka kb kc ke 50000 60000 90 110 30000 33000 t ∧ 0 ≤ gB 2000 5000 7000 ka kb kc ke 50000 60000 90 110 30000 33000 t)
    (h1 : readI ro gs 0 (n / 2) = some (List.replicate (n / 2) 0)) (h2 : readI ro gb 0 n = some (ordL n)) (h3 : readI ro gt 0 1 = some [t]) (hb : (decide (nd ≤ gA 2000 5000 7000 ka kb kc ke 50000 60000 90 110 30000 33000 t) && decide (gB 2000 5000 7000 ka kb kc ke 50000 60000 90 110 30000 33000 t ≤ 30000)) = false) :
    Cr Try.prog 16 #[.agg #[.int .i64 n, .int .i64 2000, .int .i64 5000, .int .i64 7000, .int .i64 ka, .int .i64 kb, .int .i64 kc, .int .i64 ke, .int .i64 50000, .int .i64 60000, .int .i64 90, .int .i64 110, .int .i64 30000, .int .i64 33000, .slice (some ⟨gs, 0, none⟩) ((n / 2 : Nat)) ((n / 2 : Nat)), .int .i64 nd], .slice (some ⟨gb, 0, none⟩) n pc, .int .i64 1, .slice (some ⟨gt, 0, none⟩) 1 tc] ro (.tuple #[.slice none 0 0, .int .i64 0]) := by
  have ok := ordL_ok hN
  have r := round_all (nd := nd) (sh := List.replicate (n / 2) 0) (n := n) (xs := ordL n) zero_share hg (by omega) ok.2
  exact Right_C ro n gs 0 (n / 2) (n / 2) gb 0 pc gt 0 tc (List.replicate (n / 2) 0) (ordL n) 2000 5000 7000 ka kb kc ke 50000 60000 90 110 30000 33000 nd t h1 (zs_fc hN hk hn) (by omega) hN ok.1 (ordL_bd (by omega)) hz zs_bd h2 h3 (by rw [r.1, r.2]; exact hb)
theorem right_law1 (F : Fr) (hT : F.top = true) (h : Hp) (K : Value → Hp → Prop) {n gs gb pc gt tc : Nat} {ka kb kc ke nd t : Int} (hN : 3 ≤ n ∧ n ≤ 8) (hn : 5000 ≤ nd ∧ nd < 30000) (hk : BoltOk 2000 5000 7000 ka kb kc ke 50000 60000 90 110 30000 33000) (hz : gE 2000 5000 7000 ka kb kc ke 50000 60000 90 110 30000 33000 t = 0) (hg : 0 ≤ gA 2000 5000 7000 ka kb kc ke 50000 60000 90 110 30000 33000 t ∧ 0 ≤ gB 2000 5000 7000 ka kb kc ke 50000 60000 90 110 30000 33000 t)
    (h1 : readI (h.cell? F) gs 0 (n / 2) = some (List.replicate (n / 2) 0)) (h2 : readI (h.cell? F) gb 0 n = some (ordL n)) (h3 : readI (h.cell? F) gt 0 1 = some [t]) (hb : (decide (nd ≤ gA 2000 5000 7000 ka kb kc ke 50000 60000 90 110 30000 33000 t) && decide (gB 2000 5000 7000 ka kb kc ke 50000 60000 90 110 30000 33000 t ≤ 30000)) = true)
    (hK : ∀ g (x : Nat × List Value), F.w0.heap.size ≤ g → h.own g = none → K (.tuple #[.slice (some ⟨g, 0, none⟩) 1 x.1, .int .i64 0]) (h.set g (.cells (ints [0] ++ x.2).toArray 3 (0, 0)))) :
    DCall Try.prog F 16 #[.agg #[.int .i64 n, .int .i64 2000, .int .i64 5000, .int .i64 7000, .int .i64 ka, .int .i64 kb, .int .i64 kc, .int .i64 ke, .int .i64 50000, .int .i64 60000, .int .i64 90, .int .i64 110, .int .i64 30000, .int .i64 33000, .slice (some ⟨gs, 0, none⟩) ((n / 2 : Nat)) ((n / 2 : Nat)), .int .i64 nd], .slice (some ⟨gb, 0, none⟩) n pc, .int .i64 1, .slice (some ⟨gt, 0, none⟩) 1 tc] h K := by
  have ok := ordL_ok hN
  have r := round_all (nd := nd) (sh := List.replicate (n / 2) 0) (n := n) (xs := ordL n) zero_share hg (by omega) ok.2
  exact Right_D F hT h K n gs 0 (n / 2) (n / 2) gb 0 pc gt 0 tc (List.replicate (n / 2) 0) (ordL n) 2000 5000 7000 ka kb kc ke 50000 60000 90 110 30000 33000 nd t ⟨h1⟩ ⟨zs_fc hN hk hn⟩ ⟨by omega⟩ ⟨hN⟩ ⟨ok.1⟩ ⟨ordL_bd (by omega)⟩ ⟨hz⟩ ⟨zs_bd⟩ ⟨h2⟩ ⟨h3⟩ ⟨fun e => by rw [r.1, r.2, hb] at e; cases e⟩ ⟨fun _ => hK⟩

end Go.Proofs.Ytlblahfndlgfmaa
