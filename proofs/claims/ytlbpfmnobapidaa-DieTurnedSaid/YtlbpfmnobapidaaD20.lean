/-
  Walks. Conditions: none.
-/
import Derived.Test.YtlbpfmnobapidaaD19
set_option linter.unusedVariables false
set_option linter.unusedSimpArgs false
namespace Go.Proofs.Ytlbpfmnobapidaa
open Go.RowKit Go.SL
set_option maxHeartbeats 1000000
set_option maxRecDepth 1000000
attribute [local go_sem] fl_getD fl_get fl_set lk_def st_def gL_nil gL_zero gL_succ sL_nil_zero sL_nil_succ sL_zero sL_succ Option.getD_none FgK_app onlyL_nil onlyL_none onlyL_some setO_some toB_bool toB_undef yl_def
attribute [local go_sem high] GuardK_yl GuardL_yl
attribute [local go_sem] initL_one initL_cons lastL_one lastL_cons LastK_app fin_round Fr.inr_w0 Fr.inr_ro Fr.inr_M cell_inr LoopO_some YieldK_some RoundQ_normal RoundQ_ret RoundQ_exit EndR_none EndR_some BegK_app BegR_some OutR_none OutR_ret OutR_exit LeftR_some LeftK_app
attribute [local go_sem] i64w
attribute [local go_sem] dwp_eqGuardE dwp_eqGuardN rval_eqGuardE rval_eqGuardN
attribute [local go_sem] add_none dwp_eqlSl
/-- The first piece that is not sure with a plan. -/
def judL (dn : Bool) (s0 s1 c0 c1 : Int) (ws : List (Int × Int)) (os : List Ord) : List (Int × Int) → Nat
  | [] => allN os
  | [x] => jugV dn s0 s1 c0 c1 ws os x.1.toNat x.2 (allN os)
  | x :: y :: r => if jugV dn s0 s1 c0 c1 ws os x.1.toNat x.2 y.1.toNat < y.1.toNat then jugV dn s0 s1 c0 c1 ws os x.1.toNat x.2 y.1.toNat else judL dn s0 s1 c0 c1 ws os (y :: r)
theorem jugV_bd {dn : Bool} {s0 s1 c0 c1 : Int} {ws : List (Int × Int)} {os : List Ord} {fr to : Nat} {tg : Int} (h : fr ≤ to) : fr ≤ jugV dn s0 s1 c0 c1 ws os fr tg to ∧ jugV dn s0 s1 c0 c1 ws os fr tg to ≤ to := by
  unfold jugV
  have := (firstP_spec (fun i => !inT dn s0 s1 c0 c1 ws os fr tg (fr + i + 1)) (to - fr)).1
  omega
theorem allI_mem {lo hi : Int} {xs : List Int} : allI lo hi xs = true ↔ ∀ x ∈ xs, lo ≤ x ∧ x ≤ hi := by
  induction xs with
  | nil => simp [allI]
  | cons a r ih => rw [allI_cons]; simp [ih, and_assoc]
def IJu (gs np cp : Nat) (pp : Option Addr) (pl : List (Int × Int)) (S : Hp) (J : List (Int × Int) → Nat) (V : Nat) (k' : Nat) (a : Act) (h : Hp) : Prop :=
  ∃ (i : Nat) (x : Nat → Value), Hold (i + k' = np) ∧ Hold (∀ y o, S.own y = some o → h.own y = some o) ∧ Hold (J (pl.drop i) = V) ∧ a = ⟨fl 72 x [[none, none, some (.slice pp np cp), none, none, none, none, none, some (.pointer (some ⟨gs, 0, none⟩))], [], [none, none, none, none, none, none, none, none, none, some (.slice pp np cp), some (.int .i64 np), some (.int .i64 i)]], []⟩
set_option maxHeartbeats 8000000 in
theorem Judge_K (ro : Addr → Option Value) (dn : Bool) (s0 s1 c0 c1 : Int) (pw : Option Addr) (nw cw : Nat) (ws : List (Int × Int)) (po : Option Addr) (no co : Nat) (os : List Ord) (pp : Option Addr) (np cp : Nat) (pl : List (Int × Int)) (hx : RdS ro pw nw 2 (ws.flatMap spC)) (hb : Hold (nw < 9223372036854775808)) (hy : RdS ro po no 4 (os.flatMap oC)) (hb' : Hold (no < 9223372036854775808)) (he : chkV s0 s1 c0 c1 ws os = 0) (hz : RdS ro pp np 2 (pl.flatMap spC)) (hN : 1 ≤ np ∧ np ≤ 1000) (hP : PlanOk (allN os) pl) (hh : (pl.getD 0 (1, 0)).1 = 0) :
    Cr Try.prog 34 #[.agg #[.bool dn, .int .i64 s0, .int .i64 s1, .int .i64 c0, .int .i64 c1, .slice pw nw cw], .slice po no co, .slice pp np cp] ro (.tuple #[.int .i64 (judL dn (sgnA dn s0 s1) (sgnB dn s0 s1) (sgnA dn c0 c1) (sgnB dn c0 c1) ws (ordT dn os) pl), .int .i64 0]) := by
  have hl1 := hx.count spC_len (by decide)
  have hl2 := hy.count oC_len (by decide)
  have hlen := hz.count spC_len (by decide)
  have sv0 := chk_shop he
  rw [hl1, hl2] at sv0
  have sv := Hold.mk (shop_turn dn sv0)
  rw [← ordT_all dn os] at hP
  refine Cr.ofD fun F hF hT => ?_
  subst hF
  have hop : Hold (∀ (h : Hp) (K : Value → Hp → Prop), (∀ gs po' co' pf cf h', (∀ y o, h.own y = some o → h'.own y = some o) → Hold (ShopR (h'.cell? F) gs (sgnA dn s0 s1) (sgnB dn s0 s1) (sgnA dn c0 c1) (sgnB dn c0 c1) pw nw cw po' no co' pf cf dn ws (ordT dn os)) → F.w0.heap.size ≤ gs → h.own gs = none → K (.tuple #[.pointer (some ⟨gs, 0, none⟩), .int .i64 0]) h') → DCall Try.prog F 63 #[.agg #[.bool dn, .int .i64 s0, .int .i64 s1, .int .i64 c0, .int .i64 c1, .slice pw nw cw], .slice po no co] h K) := ⟨fun h K hK => open_K F h K dn s0 s1 c0 c1 pw nw cw ws po no co os (hx.mono fun a u e => Hp.cell_ro e) hb (hy.mono fun a u e => Hp.cell_ro e) hb' he hK⟩
  clear hl1 hl2 sv0 hx hy he
  generalize (ordT dn os) = ox at *
  generalize sgnA dn s0 s1 = a0 at *
  generalize sgnB dn s0 s1 = a1 at *
  generalize sgnA dn c0 c1 = d0 at *
  generalize sgnB dn c0 c1 = d1 at *
  have ab := allN_bd sv.out.ords.1
  have hxa : pl[0]? = some pl[0] := List.getElem?_eq_getElem (by omega)
  rw [List.getD_eq_getElem?_getD, hxa, Option.getD_some] at hh
  obtain ⟨b, off, rfl, hro⟩ := hz.at spC_len hN.1 hxa
  have r00 := hro 0 _ rfl
  rw [hh, Nat.zero_mul, Nat.add_zero] at r00
  clear hro hxa hh
  have e1 : ((np : Int) == 0) = false := by simp; omega
  have e2 : ((np : Int) > 1000) = False := by simp only [eq_iff_iff, iff_false]; omega
  have e3 : ((0 : Int) < (np : Int)) = True := by simp only [eq_iff_iff, iff_true]; omega
  have hNH := Hold.mk hN
  have ha : Hold (∀ ro gs po' co' pf cf, ShopR ro gs a0 a1 d0 d1 pw nw cw po' no co' pf cf dn ws ox → Cr Try.prog 64 #[.pointer (some ⟨gs, 0, none⟩)] ro (.int .i64 (allN ox))) := ⟨fun ro gs po' co' pf cf h => allN_ok ro gs _ _ _ _ pw nw cw po' no co' pf cf dn ws ox h sv⟩
  have hpl : Hold (∀ ro gs po' co' pf cf, ShopR ro gs a0 a1 d0 d1 pw nw cw po' no co' pf cf dn ws ox → RdS ro (some ⟨b, off, none⟩) np 2 (pl.flatMap spC) → Cr Try.prog 75 #[.pointer (some ⟨gs, 0, none⟩), .slice (some ⟨b, off, none⟩) np cp] ro (.bool true)) := ⟨fun ro gs po' co' pf cf h h2 => isPlan_ok ro gs _ _ _ _ pw nw cw po' no co' pf cf dn ws ox (some ⟨b, off, none⟩) np cp pl h sv h2 hNH ⟨hP⟩⟩
  have hjj : Hold (∀ (fr to : Nat) (tg : Int), fr ≤ to ∧ to ≤ allN ox → ∀ ro gs po' co' pf cf, ShopR ro gs a0 a1 d0 d1 pw nw cw po' no co' pf cf dn ws ox → Cr Try.prog 76 #[.pointer (some ⟨gs, 0, none⟩), .agg #[.int .i64 fr, .int .i64 tg], .int .i64 to] ro (.int .i64 (jugV dn a0 a1 d0 d1 ws ox fr tg to))) := ⟨fun fr to tg hbb ro gs po' co' pf cf h => judge_ok ro gs _ _ _ _ pw nw cw po' no co' pf cf dn ws ox fr to tg h sv hbb⟩
  have hzH := Hold.mk hz
  have hPH := Hold.mk hP
  have abH := Hold.mk ab
  have hlenH := Hold.mk hlen
  have ent : ∀ i, i < np → ∃ fr : Nat, (pl.getD i (0, 0)).1 = (fr : Int) ∧ fr < allN ox := by
    intro i hi
    have q := allI_mem.1 hP.inn (pl.getD i (0, 0)).1 (List.mem_map.2 ⟨_, by rw [List.getD_eq_getElem?_getD, List.getElem?_eq_getElem (by omega), Option.getD_some]; exact List.getElem_mem _, rfl⟩)
    exact ⟨(pl.getD i (0, 0)).1.toNat, by omega, by omega⟩
  have entH := Hold.mk ent
  obtain ⟨V, hVd⟩ : ∃ V, V = judL dn a0 a1 d0 d1 ws ox pl := ⟨_, rfl⟩
  rw [← hVd]
  replace hVd := Hold.mk hVd
  clear hz hP ab hlen hN ent
  (refine DCall.inlP (l := _) Try.func34 Try.ntmps34 rfl rfl (by simp only [seval, List.length_cons, List.length_nil]) (by simp only [seval, List.length_cons, List.length_nil]) ?_; simp only [Try.results34, List.map_cons, List.map_nil])
  repeat' (first | (with_reducible refine at_seq (by with_unfolding_all exact rfl) ?_) | ((with_reducible first | refine at_plain (by with_unfolding_all exact rfl) ?_ | refine at_cond (by with_unfolding_all exact rfl) ?_ | refine at_exit (by with_unfolding_all exact rfl) ?_ | refine at_ret (by with_unfolding_all exact rfl) ?_ | refine at_skip (by with_unfolding_all exact rfl) ?_ | refine at_label (by with_unfolding_all exact rfl) ?_) <;> try simp -implicitDefEqProofs (maxSteps := 1000000) only [go_sem, seval, *]) | (with_reducible first | refine at_block (by with_unfolding_all exact rfl) ?_ | refine at_loop (by with_unfolding_all exact rfl) ?_) | ((first | ((with_reducible refine NewK.intro fun g hg hn => ?_) <;> try simp only [own_none_iff] at hn) | ((with_reducible first | refine GuardB.split (fun hc => ?_) (fun hc => ?_) | refine CondK.split (fun hc => ?_) (fun hc => ?_) | refine PickK.split (fun hc => ?_) (fun hc => ?_) | refine GuardD.split (fun hc => ?_) (fun hc => ?_)) <;> (have hc2 := hc; try simp only [beq_eq_false_iff_ne, beq_iff_eq, ne_eq, bne_iff_ne, bne_eq_false_iff_eq, decide_eq_true_eq, decide_eq_false_iff_not, Bool.not_true, Bool.not_false, Int.not_le, Int.not_lt] at hc2)) | (with_reducible first | refine dop_buildSlice ?_ | refine dop_build ?_)) <;> simp -implicitDefEqProofs (maxSteps := 1000000) only [go_sem, seval, *]))
  refine hop.out _ _ fun gs po' co' pf cf S f1 hS f3 f4 => ?_
  clear f1 hop
  simp -implicitDefEqProofs (maxSteps := 1000000) only [go_sem, seval, *]
  repeat' (first | (with_reducible refine at_seq (by with_unfolding_all exact rfl) ?_) | ((with_reducible first | refine at_plain (by with_unfolding_all exact rfl) ?_ | refine at_cond (by with_unfolding_all exact rfl) ?_ | refine at_exit (by with_unfolding_all exact rfl) ?_ | refine at_ret (by with_unfolding_all exact rfl) ?_ | refine at_skip (by with_unfolding_all exact rfl) ?_ | refine at_label (by with_unfolding_all exact rfl) ?_) <;> try simp -implicitDefEqProofs (maxSteps := 1000000) only [go_sem, seval, *]) | (with_reducible first | refine at_block (by with_unfolding_all exact rfl) ?_ | refine at_loop (by with_unfolding_all exact rfl) ?_) | ((first | ((with_reducible refine NewK.intro fun g hg hn => ?_) <;> try simp only [own_none_iff] at hn) | ((with_reducible first | refine GuardB.split (fun hc => ?_) (fun hc => ?_) | refine CondK.split (fun hc => ?_) (fun hc => ?_) | refine PickK.split (fun hc => ?_) (fun hc => ?_) | refine GuardD.split (fun hc => ?_) (fun hc => ?_)) <;> (have hc2 := hc; try simp only [beq_eq_false_iff_ne, beq_iff_eq, ne_eq, bne_iff_ne, bne_eq_false_iff_eq, decide_eq_true_eq, decide_eq_false_iff_not, Bool.not_true, Bool.not_false, Int.not_le, Int.not_lt] at hc2)) | (with_reducible first | refine dop_buildSlice ?_ | refine dop_build ?_) | ((with_reducible refine Cr.call (f := 75) (hpl.out _ _ _ _ _ _ hS.out (hzH.out.mono (fun a u e => Hp.cell_ro e))) ?_)) | (with_reducible refine CallV.of (f := 75) (hpl.out _ _ _ _ _ _ hS.out (hzH.out.mono (fun a u e => Hp.cell_ro e))) ni75 ?_)) <;> simp -implicitDefEqProofs (maxSteps := 1000000) only [go_sem, seval, *]))
  refine DLoop.indW (IJu gs np cp (some ⟨b, off, none⟩) pl S (judL dn a0 a1 d0 d1 ws ox) V) np ⟨0, _, ⟨by omega⟩, ⟨sub_refl⟩, ⟨hVd.out.symm⟩, fl_re (by kernel_rfl)⟩ ?_
  (rintro k' a h ⟨i, x, fa0, fa1, fa2, rfl⟩)
  have hj := fa0.out
  have nb := hNH.out
  have abd := abH.out
  have i0 : (0 : Int) ≤ (i : Int) := by omega
  by_cases hlt : i < np
  · have i1 : ((i : Int) < (np : Int)) = True := by simp only [eq_iff_iff, iff_true]; omega
    have iw : IntKind.i64.wrap ((i : Int) + 1) = ((i + 1 : Nat) : Int) := by rw [IntWalk.i64_in _ (by omega)]; push_cast; rfl
    have hln := hlenH.out
    have hxi : pl[i]? = some pl[i] := List.getElem?_eq_getElem (by omega)
    obtain ⟨b', off', eb, hro⟩ := hzH.out.at spC_len hlt hxi
    obtain ⟨rfl, rfl⟩ : b = b' ∧ off = off' := by cases eb; exact ⟨rfl, rfl⟩
    have r0 := hro 0 _ rfl
    have r1 := hro 1 _ rfl
    rw [Nat.add_zero] at r0
    obtain ⟨fr, hfr, hfa⟩ := entH.out i hlt
    rw [List.getD_eq_getElem?_getD, hxi, Option.getD_some] at hfr
    have hd : pl.drop i = pl[i] :: pl.drop (i + 1) := List.drop_eq_getElem_cons (by omega)
    by_cases hl2 : i + 1 < np
    · have i2 : (((i + 1 : Nat) : Int) < (np : Int)) = True := by simp only [eq_iff_iff, iff_true]; omega
      have i3 : (0 : Int) ≤ ((i + 1 : Nat) : Int) := by omega
      have hyi : pl[i + 1]? = some pl[i + 1] := List.getElem?_eq_getElem (by omega)
      obtain ⟨b', off', eb2, hro2⟩ := hzH.out.at spC_len hl2 hyi
      obtain ⟨rfl, rfl⟩ : b = b' ∧ off = off' := by cases eb2; exact ⟨rfl, rfl⟩
      have q0 := hro2 0 _ rfl
      rw [Nat.add_zero] at q0
      obtain ⟨to, hto, hta⟩ := entH.out (i + 1) hl2
      rw [List.getD_eq_getElem?_getD, hyi, Option.getD_some] at hto
      have hd2 : pl.drop (i + 1) = pl[i + 1] :: pl.drop (i + 2) := List.drop_eq_getElem_cons (by omega)
      have hasc := hPH.out.asc i (by rw [List.length_map]; omega)
      rw [List.getD_eq_getElem?_getD, List.getD_eq_getElem?_getD, List.getElem?_map, List.getElem?_map, hxi, hyi] at hasc
      have hasc2 : fr < to := by
        have : pl[i].1 < pl[i + 1].1 := hasc
        omega
      have hJ := fa2.out
      rw [hd, hd2, judL, ← hd2, hfr, hto, Int.toNat_natCast, Int.toNat_natCast] at hJ
      have hg2 := hjj.out fr to pl[i].2 (by omega)
      have jb := jugV_bd (dn := dn) (s0 := a0) (s1 := a1) (c0 := d0) (c1 := d1) (ws := ws) (os := ox) (fr := fr) (to := to) (tg := pl[i].2) (by omega)
      generalize jugV dn a0 a1 d0 d1 ws ox fr pl[i].2 to = v at *
      rw [hfr] at r0
      change F.ro _ = some (Value.int _ pl[i + 1].1) at q0
      rw [hto] at q0
      generalize pl[i].2 = tg at *
      replace hg2 := Hold.mk hg2
      by_cases hv : v < to
      · rw [if_pos hv] at hJ
        subst hJ
        have i4 : ((v : Int) < (to : Int)) = True := by simp only [eq_iff_iff, iff_true]; omega
        clear hro hro2 eb eb2 hfr hto hasc hasc2 hxi hyi hd hd2 jb hv hta hfa nb abd hj hjj
        repeat' (first | (with_reducible refine at_seq (by with_unfolding_all exact rfl) ?_) | ((with_reducible first | refine at_plain (by with_unfolding_all exact rfl) ?_ | refine at_cond (by with_unfolding_all exact rfl) ?_ | refine at_exit (by with_unfolding_all exact rfl) ?_ | refine at_ret (by with_unfolding_all exact rfl) ?_ | refine at_skip (by with_unfolding_all exact rfl) ?_ | refine at_label (by with_unfolding_all exact rfl) ?_) <;> try simp -implicitDefEqProofs (maxSteps := 1000000) only [go_sem, seval, *]) | (with_reducible first | refine at_block (by with_unfolding_all exact rfl) ?_ | refine at_loop (by with_unfolding_all exact rfl) ?_) | ((first | ((with_reducible refine NewK.intro fun g hg hn => ?_) <;> try simp only [own_none_iff] at hn) | ((with_reducible first | refine GuardB.split (fun hc => ?_) (fun hc => ?_) | refine CondK.split (fun hc => ?_) (fun hc => ?_) | refine PickK.split (fun hc => ?_) (fun hc => ?_) | refine GuardD.split (fun hc => ?_) (fun hc => ?_)) <;> (have hc2 := hc; try simp only [beq_eq_false_iff_ne, beq_iff_eq, ne_eq, bne_iff_ne, bne_eq_false_iff_eq, decide_eq_true_eq, decide_eq_false_iff_not, Bool.not_true, Bool.not_false, Int.not_le, Int.not_lt] at hc2)) | (with_reducible first | refine dop_buildSlice ?_ | refine dop_build ?_)) <;> simp -implicitDefEqProofs (maxSteps := 1000000) only [go_sem, seval, *]))
        have hs2 := Hold.mk fun ob => subS (ob := ob) fa1.out (kept_none fa1.out hn)
        repeat' (first | (with_reducible refine at_seq (by with_unfolding_all exact rfl) ?_) | ((with_reducible first | refine at_plain (by with_unfolding_all exact rfl) ?_ | refine at_cond (by with_unfolding_all exact rfl) ?_ | refine at_exit (by with_unfolding_all exact rfl) ?_ | refine at_ret (by with_unfolding_all exact rfl) ?_ | refine at_skip (by with_unfolding_all exact rfl) ?_ | refine at_label (by with_unfolding_all exact rfl) ?_) <;> try simp -implicitDefEqProofs (maxSteps := 1000000) only [go_sem, seval, *]) | (with_reducible first | refine at_block (by with_unfolding_all exact rfl) ?_ | refine at_loop (by with_unfolding_all exact rfl) ?_) | ((first | ((with_reducible refine NewK.intro fun g hg hn => ?_) <;> try simp only [own_none_iff] at hn) | ((with_reducible first | refine GuardB.split (fun hc => ?_) (fun hc => ?_) | refine CondK.split (fun hc => ?_) (fun hc => ?_) | refine PickK.split (fun hc => ?_) (fun hc => ?_) | refine GuardD.split (fun hc => ?_) (fun hc => ?_)) <;> (have hc2 := hc; try simp only [beq_eq_false_iff_ne, beq_iff_eq, ne_eq, bne_iff_ne, bne_eq_false_iff_eq, decide_eq_true_eq, decide_eq_false_iff_not, Bool.not_true, Bool.not_false, Int.not_le, Int.not_lt] at hc2)) | (with_reducible first | refine dop_buildSlice ?_ | refine dop_build ?_) | ((with_reducible refine Cr.call (f := 64) (ha.out _ _ _ _ _ _ (hS.out.mono fun a u e => sub_cell (hs2.out _) e)) ?_)) | (with_reducible refine CallV.of (f := 64) (ha.out _ _ _ _ _ _ (hS.out.mono fun a u e => sub_cell (hs2.out _) e)) ni64 ?_) | ((with_reducible refine Cr.call (f := 76) (hg2.out _ _ _ _ _ _ (hS.out.mono fun a u e => sub_cell (hs2.out _) e)) ?_)) | (with_reducible refine CallV.of (f := 76) (hg2.out _ _ _ _ _ _ (hS.out.mono fun a u e => sub_cell (hs2.out _) e)) ni76 ?_)) <;> simp -implicitDefEqProofs (maxSteps := 1000000) only [go_sem, seval, *]))
      · rw [if_neg hv] at hJ
        have i4 : ((v : Int) < (to : Int)) = False := by simp only [eq_iff_iff, iff_false]; omega
        replace hJ := Hold.mk hJ
        replace hj := Hold.mk hj
        clear hro hro2 eb eb2 hfr hto hasc hasc2 hxi hyi hd hd2 jb hv hta hfa nb abd hjj
        repeat' (first | (with_reducible refine at_seq (by with_unfolding_all exact rfl) ?_) | ((with_reducible first | refine at_plain (by with_unfolding_all exact rfl) ?_ | refine at_cond (by with_unfolding_all exact rfl) ?_ | refine at_exit (by with_unfolding_all exact rfl) ?_ | refine at_ret (by with_unfolding_all exact rfl) ?_ | refine at_skip (by with_unfolding_all exact rfl) ?_ | refine at_label (by with_unfolding_all exact rfl) ?_) <;> try simp -implicitDefEqProofs (maxSteps := 1000000) only [go_sem, seval, *]) | (with_reducible first | refine at_block (by with_unfolding_all exact rfl) ?_ | refine at_loop (by with_unfolding_all exact rfl) ?_) | ((first | ((with_reducible refine NewK.intro fun g hg hn => ?_) <;> try simp only [own_none_iff] at hn) | ((with_reducible first | refine GuardB.split (fun hc => ?_) (fun hc => ?_) | refine CondK.split (fun hc => ?_) (fun hc => ?_) | refine PickK.split (fun hc => ?_) (fun hc => ?_) | refine GuardD.split (fun hc => ?_) (fun hc => ?_)) <;> (have hc2 := hc; try simp only [beq_eq_false_iff_ne, beq_iff_eq, ne_eq, bne_iff_ne, bne_eq_false_iff_eq, decide_eq_true_eq, decide_eq_false_iff_not, Bool.not_true, Bool.not_false, Int.not_le, Int.not_lt] at hc2)) | (with_reducible first | refine dop_buildSlice ?_ | refine dop_build ?_)) <;> simp -implicitDefEqProofs (maxSteps := 1000000) only [go_sem, seval, *]))
        have hs2 := Hold.mk fun ob => subS (ob := ob) fa1.out (kept_none fa1.out hn)
        repeat' (first | (with_reducible refine at_seq (by with_unfolding_all exact rfl) ?_) | ((with_reducible first | refine at_plain (by with_unfolding_all exact rfl) ?_ | refine at_cond (by with_unfolding_all exact rfl) ?_ | refine at_exit (by with_unfolding_all exact rfl) ?_ | refine at_ret (by with_unfolding_all exact rfl) ?_ | refine at_skip (by with_unfolding_all exact rfl) ?_ | refine at_label (by with_unfolding_all exact rfl) ?_) <;> try simp -implicitDefEqProofs (maxSteps := 1000000) only [go_sem, seval, *]) | (with_reducible first | refine at_block (by with_unfolding_all exact rfl) ?_ | refine at_loop (by with_unfolding_all exact rfl) ?_) | ((first | ((with_reducible refine NewK.intro fun g hg hn => ?_) <;> try simp only [own_none_iff] at hn) | ((with_reducible first | refine GuardB.split (fun hc => ?_) (fun hc => ?_) | refine CondK.split (fun hc => ?_) (fun hc => ?_) | refine PickK.split (fun hc => ?_) (fun hc => ?_) | refine GuardD.split (fun hc => ?_) (fun hc => ?_)) <;> (have hc2 := hc; try simp only [beq_eq_false_iff_ne, beq_iff_eq, ne_eq, bne_iff_ne, bne_eq_false_iff_eq, decide_eq_true_eq, decide_eq_false_iff_not, Bool.not_true, Bool.not_false, Int.not_le, Int.not_lt] at hc2)) | (with_reducible first | refine dop_buildSlice ?_ | refine dop_build ?_) | ((with_reducible refine Cr.call (f := 64) (ha.out _ _ _ _ _ _ (hS.out.mono fun a u e => sub_cell (hs2.out _) e)) ?_)) | (with_reducible refine CallV.of (f := 64) (ha.out _ _ _ _ _ _ (hS.out.mono fun a u e => sub_cell (hs2.out _) e)) ni64 ?_) | ((with_reducible refine Cr.call (f := 76) (hg2.out _ _ _ _ _ _ (hS.out.mono fun a u e => sub_cell (hs2.out _) e)) ?_)) | (with_reducible refine CallV.of (f := 76) (hg2.out _ _ _ _ _ _ (hS.out.mono fun a u e => sub_cell (hs2.out _) e)) ni76 ?_)) <;> simp -implicitDefEqProofs (maxSteps := 1000000) only [go_sem, seval, *]))
        have hj := hj.out
        exact LoopW.intro (k' - 1) h (by omega) (subS sub_refl hn) ⟨i + 1, _, ⟨by omega⟩, ⟨fa1.out⟩, ⟨hJ.out⟩, fl_re (by kernel_rfl)⟩
    · have i2 : (((i + 1 : Nat) : Int) < (np : Int)) = False := by simp only [eq_iff_iff, iff_false]; omega
      have hd2 : pl.drop (i + 1) = [] := List.drop_eq_nil_of_le (by omega)
      have hJ := fa2.out
      rw [hd, hd2, judL, hfr, Int.toNat_natCast] at hJ
      have hg2 := hjj.out fr (allN ox) pl[i].2 (by omega)
      have jb := jugV_bd (dn := dn) (s0 := a0) (s1 := a1) (c0 := d0) (c1 := d1) (ws := ws) (os := ox) (fr := fr) (to := allN ox) (tg := pl[i].2) (by omega)
      generalize jugV dn a0 a1 d0 d1 ws ox fr pl[i].2 (allN ox) = v at *
      rw [hfr] at r0
      generalize pl[i].2 = tg at *
      replace hg2 := Hold.mk hg2
      subst hJ
      by_cases hv : v < allN ox
      · have i4 : ((v : Int) < (allN ox : Int)) = True := by simp only [eq_iff_iff, iff_true]; omega
        clear hro eb hfr hxi hd jb hv hfa nb abd hj hjj hd2
        repeat' (first | (with_reducible refine at_seq (by with_unfolding_all exact rfl) ?_) | ((with_reducible first | refine at_plain (by with_unfolding_all exact rfl) ?_ | refine at_cond (by with_unfolding_all exact rfl) ?_ | refine at_exit (by with_unfolding_all exact rfl) ?_ | refine at_ret (by with_unfolding_all exact rfl) ?_ | refine at_skip (by with_unfolding_all exact rfl) ?_ | refine at_label (by with_unfolding_all exact rfl) ?_) <;> try simp -implicitDefEqProofs (maxSteps := 1000000) only [go_sem, seval, *]) | (with_reducible first | refine at_block (by with_unfolding_all exact rfl) ?_ | refine at_loop (by with_unfolding_all exact rfl) ?_) | ((first | ((with_reducible refine NewK.intro fun g hg hn => ?_) <;> try simp only [own_none_iff] at hn) | ((with_reducible first | refine GuardB.split (fun hc => ?_) (fun hc => ?_) | refine CondK.split (fun hc => ?_) (fun hc => ?_) | refine PickK.split (fun hc => ?_) (fun hc => ?_) | refine GuardD.split (fun hc => ?_) (fun hc => ?_)) <;> (have hc2 := hc; try simp only [beq_eq_false_iff_ne, beq_iff_eq, ne_eq, bne_iff_ne, bne_eq_false_iff_eq, decide_eq_true_eq, decide_eq_false_iff_not, Bool.not_true, Bool.not_false, Int.not_le, Int.not_lt] at hc2)) | (with_reducible first | refine dop_buildSlice ?_ | refine dop_build ?_)) <;> simp -implicitDefEqProofs (maxSteps := 1000000) only [go_sem, seval, *]))
        have hs2 := Hold.mk fun ob => subS (ob := ob) fa1.out (kept_none fa1.out hn)
        repeat' (first | (with_reducible refine at_seq (by with_unfolding_all exact rfl) ?_) | ((with_reducible first | refine at_plain (by with_unfolding_all exact rfl) ?_ | refine at_cond (by with_unfolding_all exact rfl) ?_ | refine at_exit (by with_unfolding_all exact rfl) ?_ | refine at_ret (by with_unfolding_all exact rfl) ?_ | refine at_skip (by with_unfolding_all exact rfl) ?_ | refine at_label (by with_unfolding_all exact rfl) ?_) <;> try simp -implicitDefEqProofs (maxSteps := 1000000) only [go_sem, seval, *]) | (with_reducible first | refine at_block (by with_unfolding_all exact rfl) ?_ | refine at_loop (by with_unfolding_all exact rfl) ?_) | ((first | ((with_reducible refine NewK.intro fun g hg hn => ?_) <;> try simp only [own_none_iff] at hn) | ((with_reducible first | refine GuardB.split (fun hc => ?_) (fun hc => ?_) | refine CondK.split (fun hc => ?_) (fun hc => ?_) | refine PickK.split (fun hc => ?_) (fun hc => ?_) | refine GuardD.split (fun hc => ?_) (fun hc => ?_)) <;> (have hc2 := hc; try simp only [beq_eq_false_iff_ne, beq_iff_eq, ne_eq, bne_iff_ne, bne_eq_false_iff_eq, decide_eq_true_eq, decide_eq_false_iff_not, Bool.not_true, Bool.not_false, Int.not_le, Int.not_lt] at hc2)) | (with_reducible first | refine dop_buildSlice ?_ | refine dop_build ?_) | ((with_reducible refine Cr.call (f := 64) (ha.out _ _ _ _ _ _ (hS.out.mono fun a u e => sub_cell (hs2.out _) e)) ?_)) | (with_reducible refine CallV.of (f := 64) (ha.out _ _ _ _ _ _ (hS.out.mono fun a u e => sub_cell (hs2.out _) e)) ni64 ?_) | ((with_reducible refine Cr.call (f := 76) (hg2.out _ _ _ _ _ _ (hS.out.mono fun a u e => sub_cell (hs2.out _) e)) ?_)) | (with_reducible refine CallV.of (f := 76) (hg2.out _ _ _ _ _ _ (hS.out.mono fun a u e => sub_cell (hs2.out _) e)) ni76 ?_)) <;> simp -implicitDefEqProofs (maxSteps := 1000000) only [go_sem, seval, *]))
      · have i4 : ((v : Int) < (allN ox : Int)) = False := by simp only [eq_iff_iff, iff_false]; omega
        have hva : v = allN ox := by omega
        replace hj := Hold.mk hj
        replace hd2 := Hold.mk hd2
        replace hva := Hold.mk hva
        clear hro eb hfr hxi hd jb hv hfa nb abd hjj
        repeat' (first | (with_reducible refine at_seq (by with_unfolding_all exact rfl) ?_) | ((with_reducible first | refine at_plain (by with_unfolding_all exact rfl) ?_ | refine at_cond (by with_unfolding_all exact rfl) ?_ | refine at_exit (by with_unfolding_all exact rfl) ?_ | refine at_ret (by with_unfolding_all exact rfl) ?_ | refine at_skip (by with_unfolding_all exact rfl) ?_ | refine at_label (by with_unfolding_all exact rfl) ?_) <;> try simp -implicitDefEqProofs (maxSteps := 1000000) only [go_sem, seval, *]) | (with_reducible first | refine at_block (by with_unfolding_all exact rfl) ?_ | refine at_loop (by with_unfolding_all exact rfl) ?_) | ((first | ((with_reducible refine NewK.intro fun g hg hn => ?_) <;> try simp only [own_none_iff] at hn) | ((with_reducible first | refine GuardB.split (fun hc => ?_) (fun hc => ?_) | refine CondK.split (fun hc => ?_) (fun hc => ?_) | refine PickK.split (fun hc => ?_) (fun hc => ?_) | refine GuardD.split (fun hc => ?_) (fun hc => ?_)) <;> (have hc2 := hc; try simp only [beq_eq_false_iff_ne, beq_iff_eq, ne_eq, bne_iff_ne, bne_eq_false_iff_eq, decide_eq_true_eq, decide_eq_false_iff_not, Bool.not_true, Bool.not_false, Int.not_le, Int.not_lt] at hc2)) | (with_reducible first | refine dop_buildSlice ?_ | refine dop_build ?_)) <;> simp -implicitDefEqProofs (maxSteps := 1000000) only [go_sem, seval, *]))
        have hs2 := Hold.mk fun ob => subS (ob := ob) fa1.out (kept_none fa1.out hn)
        repeat' (first | (with_reducible refine at_seq (by with_unfolding_all exact rfl) ?_) | ((with_reducible first | refine at_plain (by with_unfolding_all exact rfl) ?_ | refine at_cond (by with_unfolding_all exact rfl) ?_ | refine at_exit (by with_unfolding_all exact rfl) ?_ | refine at_ret (by with_unfolding_all exact rfl) ?_ | refine at_skip (by with_unfolding_all exact rfl) ?_ | refine at_label (by with_unfolding_all exact rfl) ?_) <;> try simp -implicitDefEqProofs (maxSteps := 1000000) only [go_sem, seval, *]) | (with_reducible first | refine at_block (by with_unfolding_all exact rfl) ?_ | refine at_loop (by with_unfolding_all exact rfl) ?_) | ((first | ((with_reducible refine NewK.intro fun g hg hn => ?_) <;> try simp only [own_none_iff] at hn) | ((with_reducible first | refine GuardB.split (fun hc => ?_) (fun hc => ?_) | refine CondK.split (fun hc => ?_) (fun hc => ?_) | refine PickK.split (fun hc => ?_) (fun hc => ?_) | refine GuardD.split (fun hc => ?_) (fun hc => ?_)) <;> (have hc2 := hc; try simp only [beq_eq_false_iff_ne, beq_iff_eq, ne_eq, bne_iff_ne, bne_eq_false_iff_eq, decide_eq_true_eq, decide_eq_false_iff_not, Bool.not_true, Bool.not_false, Int.not_le, Int.not_lt] at hc2)) | (with_reducible first | refine dop_buildSlice ?_ | refine dop_build ?_) | ((with_reducible refine Cr.call (f := 64) (ha.out _ _ _ _ _ _ (hS.out.mono fun a u e => sub_cell (hs2.out _) e)) ?_)) | (with_reducible refine CallV.of (f := 64) (ha.out _ _ _ _ _ _ (hS.out.mono fun a u e => sub_cell (hs2.out _) e)) ni64 ?_) | ((with_reducible refine Cr.call (f := 76) (hg2.out _ _ _ _ _ _ (hS.out.mono fun a u e => sub_cell (hs2.out _) e)) ?_)) | (with_reducible refine CallV.of (f := 76) (hg2.out _ _ _ _ _ _ (hS.out.mono fun a u e => sub_cell (hs2.out _) e)) ni76 ?_)) <;> simp -implicitDefEqProofs (maxSteps := 1000000) only [go_sem, seval, *]))
        have hj := hj.out
        exact LoopW.intro (k' - 1) h (by omega) (subS sub_refl hn) ⟨i + 1, _, ⟨by omega⟩, ⟨fa1.out⟩, ⟨by rw [hd2.out, judL]; exact hva.out.symm⟩, fl_re (by kernel_rfl)⟩
  · have i1 : ((i : Int) < (np : Int)) = False := by simp only [eq_iff_iff, iff_false]; omega
    have hJ := fa2.out
    have hln := hlenH.out
    rw [List.drop_eq_nil_of_le (by omega), judL] at hJ
    subst hJ
    clear hlt i0 hj nb abd hjj hpl
    repeat' (first | (with_reducible refine at_seq (by with_unfolding_all exact rfl) ?_) | ((with_reducible first | refine at_plain (by with_unfolding_all exact rfl) ?_ | refine at_cond (by with_unfolding_all exact rfl) ?_ | refine at_exit (by with_unfolding_all exact rfl) ?_ | refine at_ret (by with_unfolding_all exact rfl) ?_ | refine at_skip (by with_unfolding_all exact rfl) ?_ | refine at_label (by with_unfolding_all exact rfl) ?_) <;> try simp -implicitDefEqProofs (maxSteps := 1000000) only [go_sem, seval, *]) | (with_reducible first | refine at_block (by with_unfolding_all exact rfl) ?_ | refine at_loop (by with_unfolding_all exact rfl) ?_) | ((first | ((with_reducible refine NewK.intro fun g hg hn => ?_) <;> try simp only [own_none_iff] at hn) | ((with_reducible first | refine GuardB.split (fun hc => ?_) (fun hc => ?_) | refine CondK.split (fun hc => ?_) (fun hc => ?_) | refine PickK.split (fun hc => ?_) (fun hc => ?_) | refine GuardD.split (fun hc => ?_) (fun hc => ?_)) <;> (have hc2 := hc; try simp only [beq_eq_false_iff_ne, beq_iff_eq, ne_eq, bne_iff_ne, bne_eq_false_iff_eq, decide_eq_true_eq, decide_eq_false_iff_not, Bool.not_true, Bool.not_false, Int.not_le, Int.not_lt] at hc2)) | (with_reducible first | refine dop_buildSlice ?_ | refine dop_build ?_) | ((with_reducible refine Cr.call (f := 64) (ha.out _ _ _ _ _ _ (hS.out.mono fun a u e => sub_cell fa1.out e)) ?_)) | (with_reducible refine CallV.of (f := 64) (ha.out _ _ _ _ _ _ (hS.out.mono fun a u e => sub_cell fa1.out e)) ni64 ?_)) <;> simp -implicitDefEqProofs (maxSteps := 1000000) only [go_sem, seval, *]))

end Go.Proofs.Ytlbpfmnobapidaa
