/-
  Walks. Conditions: none.
-/
import Derived.Test.YtlbpfmnobapidaaD28
set_option linter.unusedVariables false
set_option linter.unusedSimpArgs false
namespace Go.Proofs.Ytlbpfmnobapidaa
open Go.RowKit Go.SL
set_option maxHeartbeats 1000000
set_option maxRecDepth 1000000
attribute [local go_sem] fl_getD fl_get fl_set lk_def st_def gL_nil gL_zero gL_succ sL_nil_zero sL_nil_succ sL_zero sL_succ Option.getD_none FgK_app onlyL_nil onlyL_none onlyL_some setO_some toB_bool toB_undef yl_def
attribute [local go_sem high] GuardK_yl GuardL_yl
attribute [local go_sem] initL_one initL_cons lastL_one lastL_cons LastK_app fin_round Fr.inr_w0 Fr.inr_ro Fr.inr_M cell_inr LoopO_some YieldK_some RoundQ_normal RoundQ_ret RoundQ_exit EndR_none EndR_some BegK_app BegR_some OutR_none OutR_ret OutR_exit LeftR_some LeftK_app
attribute [local go_sem] i64w
attribute [local go_sem] dwp_eqGuardE dwp_eqGuardN rval_eqGuardE rval_eqGuardN
attribute [local go_sem] add_none
/-- A zone that is turned round. -/
def mvO (o : Ord) : Ord := ⟨o.pc, o.st, 20000 - o.z1, 20000 - o.z0⟩
theorem set_oC (L1 L2 : List Ord) (o : Ord) (a b : Int) (tl : List Value) (i : Nat) (hi : L1.length = i) :
    (((L1 ++ o :: L2).flatMap oC ++ tl).toArray.setIfInBounds (i * 4 + 2) (.int .i64 a)).setIfInBounds (i * 4 + 3) (.int .i64 b) = ((L1 ++ ⟨o.pc, o.st, a, b⟩ :: L2).flatMap oC ++ tl).toArray := by
  have h1 : (L1.flatMap oC).length = i * 4 := by rw [flat_len oC_len, hi]
  rw [List.setIfInBounds_toArray, List.setIfInBounds_toArray, List.flatMap_append, List.flatMap_append, List.flatMap_cons, List.flatMap_cons, List.append_assoc, List.append_assoc, List.append_assoc, List.append_assoc,
    List.set_append_right _ _ (by omega), List.set_append_right _ _ (by omega), h1, show i * 4 + 2 - i * 4 = 2 by omega, show i * 4 + 3 - i * 4 = 3 by omega]
  rfl
/-- The zones of the first orders are turned round. -/
def mvL (os : List Ord) (i : Nat) : List Ord := (os.take i).map mvO ++ os.drop i
theorem mvL_zero (os : List Ord) : mvL os 0 = os := rfl
theorem mvL_all (os : List Ord) (n : Nat) (h : os.length = n) : mvL os n = os.map mvO := by
  unfold mvL
  rw [List.take_of_length_le (by omega), List.drop_eq_nil_of_le (by omega), List.append_nil]
theorem mvL_set {os : List Ord} {i : Nat} {o : Ord} (h : os[i]? = some o) (tl : List Value) :
    (((mvL os i).flatMap oC ++ tl).toArray.setIfInBounds (i * 4 + 2) (.int .i64 (20000 - o.z1))).setIfInBounds (i * 4 + 3) (.int .i64 (20000 - o.z0)) = ((mvL os (i + 1)).flatMap oC ++ tl).toArray := by
  obtain ⟨hi, rfl⟩ := List.getElem?_eq_some_iff.1 h
  unfold mvL
  rw [List.drop_eq_getElem_cons hi, set_oC _ _ _ _ _ _ i (by simp; omega), List.take_succ_eq_append_getElem hi, List.map_append, List.append_assoc]
  rfl
theorem mvL_len (os : List Ord) (i : Nat) : (mvL os i).length = os.length := by unfold mvL; simp; omega
theorem chk_ok {s0 s1 c0 c1 : Int} {ws : List (Int × Int)} {os : List Ord} (h1 : 1 ≤ ws.length ∧ ws.length ≤ 8) (h2 : spB (-1000000) 1000000 s0 s1 = true) (h3 : spB (-1000000) 1000000 c0 c1 = true) (h4 : ∀ w ∈ ws, spB 0 100000 w.1 w.2 = true) (h5 : 1 ≤ os.length ∧ os.length ≤ 40)
    (h6 : ∀ o ∈ os, (1 ≤ o.pc ∧ o.pc ≤ 10000) ∧ spB 0 10000000000 o.z0 o.z1 = true ∧ 0 ≤ o.st ∧ o.st < ws.length) : chkV s0 s1 c0 c1 ws os = 0 := by
  have ht : toolE s0 s1 c0 c1 ws = 0 := by
    unfold toolE
    rw [if_neg (by omega), if_neg]
    simp only [h2, h3, Bool.not_true, Bool.or_false, Bool.or_eq_true, beq_iff_eq, List.any_eq_true, not_or, not_exists, not_and]
    exact ⟨by omega, fun w hw => by rw [h4 w hw]; decide⟩
  have ho : ordE ws.length os = 0 := by
    clear h5
    induction os with
    | nil => rfl
    | cons o r ih =>
      obtain ⟨p1, p2, p3⟩ := h6 o (by simp)
      have e1 : allI 1 10000 [o.pc] = true := by simp [allI]; omega
      have e2 : steelE ws.length o.st = 0 := by unfold steelE; rw [if_pos]; simp [allI]; omega
      rw [ordE, e1, p2, if_neg (by decide), if_pos e2]
      exact ih fun x hx => h6 x (by simp [hx])
  unfold chkV
  rw [if_neg (by rw [ht]; omega), if_pos ht, if_pos ho, if_neg (by omega)]
theorem toolW_bd {wl : List (Int × Int)} (hB : ∀ w ∈ wl, Byte w.1 ∧ Byte w.2) (n : Nat) : ∀ w ∈ toolW wl n, spB 0 100000 w.1 w.2 = true := by
  intro w hw
  unfold toolW at hw
  obtain ⟨i, _, rfl⟩ := List.mem_map.1 hw
  have : Byte (wl.getD i (0, 0)).1 ∧ Byte (wl.getD i (0, 0)).2 := by
    rw [List.getD_eq_getElem?_getD]
    cases h : wl[i]? with
    | none => exact ⟨⟨by decide, by decide⟩, ⟨by decide, by decide⟩⟩
    | some x => exact hB x (List.mem_of_getElem? h)
  unfold Byte at this
  rw [spB_iff]
  unfold wF
  dsimp only
  omega
theorem ordL_bd {ol : List Q4} (hC : ∀ q ∈ ol, Byte4 q) (st n : Nat) (hs : 1 ≤ st) : ∀ o ∈ ordL st ol n, (1 ≤ o.pc ∧ o.pc ≤ 30) ∧ (10000 ≤ o.z0 ∧ o.z0 ≤ o.z1 ∧ o.z1 ≤ 10400) ∧ 0 ≤ o.st ∧ o.st < st := by
  intro o ho
  unfold ordL at ho
  obtain ⟨i, _, rfl⟩ := List.mem_map.1 ho
  have : Byte4 (ol.getD i q4) := by
    rw [List.getD_eq_getElem?_getD]
    cases h : ol[i]? with
    | none => exact ⟨⟨by decide, by decide⟩, ⟨by decide, by decide⟩, ⟨by decide, by decide⟩, ⟨by decide, by decide⟩⟩
    | some x => exact hC x (List.mem_of_getElem? h)
  generalize ol.getD i q4 = q at *
  unfold Byte4 Byte at this
  have hm := Int.emod_nonneg q.b (show (st : Int) ≠ 0 by omega)
  have hm2 := Int.emod_lt_of_pos q.b (show (0 : Int) < st by omega)
  unfold oF
  dsimp only
  omega
theorem mv_st : ∀ (os : List Ord) (p : Nat), (ordP (os.map mvO) p).st = (ordP os p).st
  | [], _ => rfl
  | o :: r, p => by
    rw [List.map_cons, ordP, ordP, show (mvO o).pc = o.pc from rfl]
    split
    · rfl
    · exact mv_st r _
theorem mv_wP (ws : List (Int × Int)) (os : List Ord) : ∀ p, wP ws (os.map mvO) p = wP ws os p
  | 0 => rfl
  | p + 1 => by
    have ih := mv_wP ws os p
    show ((wP ws (os.map mvO) p).1 + (wrAt ws (ordP (os.map mvO) p).st).1, (wP ws (os.map mvO) p).2 + (wrAt ws (ordP (os.map mvO) p).st).2) = _
    rw [ih, mv_st]
    rfl
/-- By how much zones are moved that are turned round, and then round once more. -/
def mvD (dn : Bool) : Int := if dn then 20000 else -20000
theorem mv_ordT (dn : Bool) (os : List Ord) : ordT (!dn) (os.map mvO) = (ordT dn os).map (shO (mvD dn)) := by
  unfold ordT mvD
  cases dn with
  | false =>
    simp only [Bool.not_false, if_true, Bool.false_eq_true, if_false, List.map_map]
    refine List.map_congr_left fun o _ => ?_
    simp only [Function.comp, turnO, mvO, shO, Ord.mk.injEq, true_and]
    omega
  | true =>
    simp only [Bool.not_true, if_true, Bool.false_eq_true, if_false, List.map_map]
    refine List.map_congr_left fun o _ => ?_
    simp only [Function.comp, turnO, mvO, shO, Ord.mk.injEq, true_and]
    omega
theorem mv_sA (dn : Bool) (a b : Int) : sgnA (!dn) (0 - b) (0 - a) = sgnA dn a b := by
  unfold sgnA
  cases dn <;> simp
theorem mv_sB (dn : Bool) (a b : Int) : sgnB (!dn) (0 - b) (0 - a) = sgnB dn a b := by
  unfold sgnB
  cases dn <;> simp
theorem mv_all (os : List Ord) : allN (os.map mvO) = allN os := by
  have := congrArg allN (mv_ordT false os)
  rw [ordT_all, sh_all, ordT_all] at this
  exact this
theorem mv_back (dn : Bool) (x : Int × Int) : backV (!dn) (x.1 + mvD dn, x.2 + mvD dn) = (20000 - (backV dn x).2, 20000 - (backV dn x).1) := by
  unfold backV mvD
  cases dn with
  | false => simp; omega
  | true => simp; omega
/-- The plan and its error. -/
def planX (dn : Bool) (s0 s1 c0 c1 : Int) (ws : List (Int × Int)) (os : List Ord) : List (Int × Int) := if endV s0 s1 c0 c1 ws os = allN os then planV dn s0 s1 c0 c1 ws os else []
def planE (s0 s1 c0 c1 : Int) (ws : List (Int × Int)) (os : List Ord) : Int := if endV s0 s1 c0 c1 ws os = allN os then 0 else 7
theorem planF_len (dn : Bool) (s0 s1 c0 c1 : Int) (ws : List (Int × Int)) (os : List Ord) : ∀ f fr, (planF dn s0 s1 c0 c1 ws os f fr).length ≤ f
  | 0, _ => Nat.le_refl _
  | f + 1, fr => by
    rw [planF]
    split
    · rw [List.length_cons]
      have := planF_len dn s0 s1 c0 c1 ws os f (reachV s0 s1 c0 c1 ws os fr)
      omega
    · exact Nat.zero_le _
theorem planX_len (dn : Bool) (s0 s1 c0 c1 : Int) (ws : List (Int × Int)) (os : List Ord) : (planX dn s0 s1 c0 c1 ws os).length ≤ allN os := by
  unfold planX planV
  split
  · exact planF_len _ _ _ _ _ _ _ _ _
  · exact Nat.zero_le _
theorem sh_planX (dn dn' : Bool) (d s0 s1 c0 c1 : Int) (ws : List (Int × Int)) (os : List Ord) : (planX dn' s0 s1 c0 c1 ws (os.map (shO d))).map Prod.fst = (planX dn s0 s1 c0 c1 ws os).map Prod.fst := by
  unfold planX
  rw [sh_end, sh_all]
  split
  · unfold planV
    rw [sh_all]
    exact sh_planF dn dn' d s0 s1 c0 c1 ws os _ _
  · rfl
theorem sh_planE (d s0 s1 c0 c1 : Int) (ws : List (Int × Int)) (os : List Ord) : planE s0 s1 c0 c1 ws (os.map (shO d)) = planE s0 s1 c0 c1 ws os := by
  unfold planE
  rw [sh_end, sh_all]
theorem Plan_U (F : Fr) (h : Hp) (K : Value → Hp → Prop) (dn : Bool) (s0 s1 c0 c1 : Int) (pw : Option Addr) (nw cw : Nat) (ws : List (Int × Int)) (po : Option Addr) (no co : Nat) (os : List Ord) (hx : RdS (h.cell? F) pw nw 2 (ws.flatMap spC)) (hb : Hold (nw < 9223372036854775808)) (hy : RdS (h.cell? F) po no 4 (os.flatMap oC)) (hb' : Hold (no < 9223372036854775808)) (he : chkV s0 s1 c0 c1 ws os = 0)
    (hK : ∀ pp cp h', (∀ y o, h.own y = some o → h'.own y = some o) → Hold (RdS (h'.cell? F) pp (planX dn (sgnA dn s0 s1) (sgnB dn s0 s1) (sgnA dn c0 c1) (sgnB dn c0 c1) ws (ordT dn os)).length 2 ((planX dn (sgnA dn s0 s1) (sgnB dn s0 s1) (sgnA dn c0 c1) (sgnB dn c0 c1) ws (ordT dn os)).flatMap spC)) → K (.tuple #[.slice pp (planX dn (sgnA dn s0 s1) (sgnB dn s0 s1) (sgnA dn c0 c1) (sgnB dn c0 c1) ws (ordT dn os)).length cp, .int .i64 (planE (sgnA dn s0 s1) (sgnB dn s0 s1) (sgnA dn c0 c1) (sgnB dn c0 c1) ws (ordT dn os))]) h') :
    DCall Try.prog F 26 #[.agg #[.bool dn, .int .i64 s0, .int .i64 s1, .int .i64 c0, .int .i64 c1, .slice pw nw cw], .slice po no co] h K := by
  refine Plan_S F h K dn s0 s1 c0 c1 pw nw cw ws po no co os hx hb hy hb' he (fun e g c h' s n o => ?_) (fun e => ?_)
  · have e1 : planX dn (sgnA dn s0 s1) (sgnB dn s0 s1) (sgnA dn c0 c1) (sgnB dn c0 c1) ws (ordT dn os) = planV dn (sgnA dn s0 s1) (sgnB dn s0 s1) (sgnA dn c0 c1) (sgnB dn c0 c1) ws (ordT dn os) := if_pos (e.trans (ordT_all dn os).symm)
    have e2 : planE (sgnA dn s0 s1) (sgnB dn s0 s1) (sgnA dn c0 c1) (sgnB dn c0 c1) ws (ordT dn os) = 0 := if_pos (e.trans (ordT_all dn os).symm)
    rw [e1, e2] at hK
    obtain ⟨g', c', q, rd⟩ := o.some (by
      have hl1 := hx.count spC_len (by decide)
      have hl2 := hy.count oC_len (by decide)
      have sv0 := chk_shop he
      rw [hl1, hl2] at sv0
      have ab := allN_bd (shop_turn dn sv0).ords.1
      exact planV_pos (by omega) (e.trans (ordT_all dn os).symm))
    cases q
    exact hK _ _ h' s ⟨RdS.of rd⟩
  · have e1 : planX dn (sgnA dn s0 s1) (sgnB dn s0 s1) (sgnA dn c0 c1) (sgnB dn c0 c1) ws (ordT dn os) = [] := if_neg (fun q => e (q.trans (ordT_all dn os)))
    have e2 : planE (sgnA dn s0 s1) (sgnB dn s0 s1) (sgnA dn c0 c1) (sgnB dn c0 c1) ws (ordT dn os) = 7 := if_neg (fun q => e (q.trans (ordT_all dn os)))
    rw [e1, e2] at hK
    exact hK none 0 h (fun y o e => e) ⟨RdS.zero⟩

end Go.Proofs.Ytlbpfmnobapidaa
