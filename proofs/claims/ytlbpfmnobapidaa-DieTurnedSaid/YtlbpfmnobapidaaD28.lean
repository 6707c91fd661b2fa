/-
  Walks. Conditions: none.
-/
import Derived.Test.YtlbpfmnobapidaaD27
set_option linter.unusedVariables false
set_option linter.unusedSimpArgs false
namespace Go.Proofs.Ytlbpfmnobapidaa
open Go.RowKit Go.SL
set_option maxHeartbeats 1000000
set_option maxRecDepth 1000000
attribute [local go_sem] fl_getD fl_get fl_set lk_def st_def gL_nil gL_zero gL_succ sL_nil_zero sL_nil_succ sL_zero sL_succ Option.getD_none FgK_app onlyL_nil onlyL_none onlyL_some setO_some toB_bool toB_undef yl_def
attribute [local go_sem high] GuardK_yl GuardL_yl
attribute [local go_sem] initL_one initL_cons lastL_one lastL_cons LastK_app fin_round Fr.inr_w0 Fr.inr_ro Fr.inr_M cell_inr LoopO_some YieldK_some RoundQ_normal RoundQ_ret RoundQ_exit EndR_none EndR_some BegK_app BegR_some OutR_none OutR_ret OutR_exit LeftR_some LeftK_app
attribute [local go_sem] i64w
attribute [local go_sem] dwp_eqGuardE dwp_eqGuardN rval_eqGuardE rval_eqGuardN
attribute [local go_sem] add_none
/-- Orders, with what they are made of. -/
theorem sorders_R (F : Fr) (h : Hp) (K : Value → Hp → Prop) (dn : Bool) (a0 a1 : Int) (pW : Option Addr) (nW cW : Nat) (pO : Option Addr) (nO cO : Nat) (pT : Option Addr) (nT cT : Nat) (wl : List (Int × Int)) (ol : List Q4) (hx : Hold (RdS F.ro pW nW 2 (wl.flatMap u8C))) (hB : Hold (∀ w ∈ wl, Byte w.1 ∧ Byte w.2)) (hA : Hold (Byte a0 ∧ Byte a1)) (hn0 : Hold (nW ≤ 9223372036854775807))
    (hy : Hold (RdS F.ro pO nO 4 (ol.flatMap u8D))) (hC : Hold (∀ q ∈ ol, Byte4 q)) (hn1 : Hold (nO ≤ 9223372036854775807))
    (hK : ∀ g (x : Nat × List Value), F.w0.heap.size ≤ g → h.own g = none → K (.slice (some ⟨g, 0, none⟩) (ordN ol) x.1) (h.set g (.cells ((ordL (toolN wl) ol (ordN ol)).flatMap oC ++ x.2).toArray 88 (0, 0)))) :
    DCall Try.prog F 49 #[.agg #[.bool dn, .int .u8 a0, .int .u8 a1, .slice pW nW cW, .slice pO nO cO, .slice pT nT cT]] h K := by
  refine DCall.weak (sorders_S F h _ dn a0 a1 pW nW cW pO nO cO pT nT cT wl ol hx hB hA hn0 hy hC hn1 ⟨fun g c h' s n o => ?_⟩)
  rcases o.2 with ⟨e, _⟩ | ⟨g', cap, tl, e, e1, e2, e3⟩
  · cases e
  · cases e
    exact ⟨h.set g (.cells ((ordL (toolN wl) ol (ordN ol)).flatMap oC ++ tl).toArray 88 (0, 0)), sub_put s e2, hK g (c, tl) e1 n⟩
def ILa (po : Option Addr) (no co : Nat) (os : List Ord) (k' : Nat) (a : Act) (h : Hp) : Prop :=
  ∃ (i : Nat) (x : Nat → Value), Hold (i + k' = no) ∧ h = Hp.none_ ∧ a = ⟨fl 19 x [[some (.slice po no co), none, none, some (.int .i64 (fstV os i)), some (.int .i64 i)]], []⟩
set_option maxHeartbeats 4000000 in
theorem lall_ok (ro : Addr → Option Value) (po : Option Addr) (no co nw : Nat) (os : List Ord) (hy : RdS ro po no 4 (os.flatMap oC)) (hO : Hold (OrdsOk nw os)) :
    Cr Try.prog 50 #[.slice po no co] ro (.int .i64 (allN os)) := by
  have hlen := hy.count oC_len (by decide)
  have hl := hO.out.len
  have hyH := Hold.mk hy
  have hal : (allN os : Int) = fstV os no := by unfold allN; rw [fN_fst hO.out _ (Nat.le_refl _), hlen]
  rw [hal]
  clear hy hal
  have hlenH := Hold.mk hlen
  (refine Cr.ofP (l := _) Try.func50 Try.ntmps50 rfl rfl (by simp only [seval, List.length_cons, List.length_nil]) (by simp only [seval, List.length_cons, List.length_nil]) (fun F hF => ?_); simp only [Try.results50, List.map_cons, List.map_nil])
  subst hF
  repeat' (first | (with_reducible refine at_seq (by with_unfolding_all exact rfl) ?_) | ((with_reducible first | refine at_plain (by with_unfolding_all exact rfl) ?_ | refine at_cond (by with_unfolding_all exact rfl) ?_ | refine at_exit (by with_unfolding_all exact rfl) ?_ | refine at_ret (by with_unfolding_all exact rfl) ?_ | refine at_skip (by with_unfolding_all exact rfl) ?_ | refine at_label (by with_unfolding_all exact rfl) ?_) <;> try simp -implicitDefEqProofs (maxSteps := 1000000) only [go_sem, seval, *]) | (with_reducible first | refine at_block (by with_unfolding_all exact rfl) ?_ | refine at_loop (by with_unfolding_all exact rfl) ?_) | ((first | ((with_reducible refine NewK.intro fun g hg hn => ?_) <;> try simp only [own_none_iff] at hn) | ((with_reducible first | refine GuardB.split (fun hc => ?_) (fun hc => ?_) | refine CondK.split (fun hc => ?_) (fun hc => ?_) | refine PickK.split (fun hc => ?_) (fun hc => ?_) | refine GuardD.split (fun hc => ?_) (fun hc => ?_)) <;> (have hc2 := hc; try simp only [beq_eq_false_iff_ne, beq_iff_eq, ne_eq, bne_iff_ne, bne_eq_false_iff_eq, decide_eq_true_eq, decide_eq_false_iff_not, Bool.not_true, Bool.not_false, Int.not_le, Int.not_lt] at hc2)) | (with_reducible first | refine dop_buildSlice ?_ | refine dop_build ?_)) <;> simp -implicitDefEqProofs (maxSteps := 1000000) only [go_sem, seval, *]))
  refine DLoop.ind (ILa po no co os) no ⟨0, _, ⟨by omega⟩, rfl, fl_re (by kernel_rfl)⟩ ?_
  clear hlen hl
  (rintro k' a h ⟨i, x, fa0, rfl, rfl⟩)
  have hj := fa0.out
  have hlen := hlenH.out
  have hl := hO.out.len
  by_cases hlt : i < no
  · have i1 : ((i : Int) < (no : Int)) = True := by simp only [eq_iff_iff, iff_true]; omega
    have i0 : (0 : Int) ≤ (i : Int) := by omega
    have hxi : os[i]? = some os[i] := List.getElem?_eq_getElem (by omega)
    obtain ⟨b, off, rfl, hro⟩ := hyH.out.at oC_len hlt hxi
    have r0 := hro 0 _ rfl
    rw [Nat.add_zero] at r0
    have f1 := fstV_succ hxi
    have f2 := fstV_bd hO.out i (by omega)
    have f3 := fstV_bd hO.out (i + 1) (by omega)
    have z0 : IntKind.i64.wrap ((i : Int) + 1) = ((i + 1 : Nat) : Int) := by rw [IntWalk.i64_in _ (by omega)]; push_cast; rfl
    have z1 : IntKind.i64.wrap (fstV os i + os[i].pc) = fstV os (i + 1) := by rw [← f1, IntWalk.i64_in _ (by omega)]
    generalize os[i].pc = pc at *
    clear hro hxi f1 f2 f3 hlen hl hj
    repeat' (first | (with_reducible refine at_seq (by with_unfolding_all exact rfl) ?_) | ((with_reducible first | refine at_plain (by with_unfolding_all exact rfl) ?_ | refine at_cond (by with_unfolding_all exact rfl) ?_ | refine at_exit (by with_unfolding_all exact rfl) ?_ | refine at_ret (by with_unfolding_all exact rfl) ?_ | refine at_skip (by with_unfolding_all exact rfl) ?_ | refine at_label (by with_unfolding_all exact rfl) ?_) <;> try simp -implicitDefEqProofs (maxSteps := 1000000) only [go_sem, seval, *]) | (with_reducible first | refine at_block (by with_unfolding_all exact rfl) ?_ | refine at_loop (by with_unfolding_all exact rfl) ?_) | ((first | ((with_reducible refine NewK.intro fun g hg hn => ?_) <;> try simp only [own_none_iff] at hn) | ((with_reducible first | refine GuardB.split (fun hc => ?_) (fun hc => ?_) | refine CondK.split (fun hc => ?_) (fun hc => ?_) | refine PickK.split (fun hc => ?_) (fun hc => ?_) | refine GuardD.split (fun hc => ?_) (fun hc => ?_)) <;> (have hc2 := hc; try simp only [beq_eq_false_iff_ne, beq_iff_eq, ne_eq, bne_iff_ne, bne_eq_false_iff_eq, decide_eq_true_eq, decide_eq_false_iff_not, Bool.not_true, Bool.not_false, Int.not_le, Int.not_lt] at hc2)) | (with_reducible first | refine dop_buildSlice ?_ | refine dop_build ?_)) <;> simp -implicitDefEqProofs (maxSteps := 1000000) only [go_sem, seval, *]))
    have hj := fa0.out
    refine LoopK.intro (k' - 1) (by omega) ⟨i + 1, _, ⟨by omega⟩, rfl, fl_re (by kernel_rfl)⟩
  · have i1 : ((i : Int) < (no : Int)) = False := by simp only [eq_iff_iff, iff_false]; omega
    obtain rfl : i = no := by omega
    clear hlt hj hlen hl
    repeat' (first | (with_reducible refine at_seq (by with_unfolding_all exact rfl) ?_) | ((with_reducible first | refine at_plain (by with_unfolding_all exact rfl) ?_ | refine at_cond (by with_unfolding_all exact rfl) ?_ | refine at_exit (by with_unfolding_all exact rfl) ?_ | refine at_ret (by with_unfolding_all exact rfl) ?_ | refine at_skip (by with_unfolding_all exact rfl) ?_ | refine at_label (by with_unfolding_all exact rfl) ?_) <;> try simp -implicitDefEqProofs (maxSteps := 1000000) only [go_sem, seval, *]) | (with_reducible first | refine at_block (by with_unfolding_all exact rfl) ?_ | refine at_loop (by with_unfolding_all exact rfl) ?_) | ((first | ((with_reducible refine NewK.intro fun g hg hn => ?_) <;> try simp only [own_none_iff] at hn) | ((with_reducible first | refine GuardB.split (fun hc => ?_) (fun hc => ?_) | refine CondK.split (fun hc => ?_) (fun hc => ?_) | refine PickK.split (fun hc => ?_) (fun hc => ?_) | refine GuardD.split (fun hc => ?_) (fun hc => ?_)) <;> (have hc2 := hc; try simp only [beq_eq_false_iff_ne, beq_iff_eq, ne_eq, bne_iff_ne, bne_eq_false_iff_eq, decide_eq_true_eq, decide_eq_false_iff_not, Bool.not_true, Bool.not_false, Int.not_le, Int.not_lt] at hc2)) | (with_reducible first | refine dop_buildSlice ?_ | refine dop_build ?_)) <;> simp -implicitDefEqProofs (maxSteps := 1000000) only [go_sem, seval, *]))
theorem turn1_ok (ro : Addr → Option Value) (a b m : Int) (h1 : IntKind.i64.wrap (m - b) = m - b) (h2 : IntKind.i64.wrap (m - a) = m - a) : Cr Try.prog 56 #[.agg #[.int .i64 a, .int .i64 b], .int .i64 m] ro (.agg #[.int .i64 (m - b), .int .i64 (m - a)]) := by
  (refine Cr.ofP (l := _) Try.func56 Try.ntmps56 rfl rfl (by simp only [seval, List.length_cons, List.length_nil]) (by simp only [seval, List.length_cons, List.length_nil]) (fun F hF => ?_); simp only [Try.results56, List.map_cons, List.map_nil])
  subst hF
  repeat' (first | (with_reducible refine at_seq (by with_unfolding_all exact rfl) ?_) | ((with_reducible first | refine at_plain (by with_unfolding_all exact rfl) ?_ | refine at_cond (by with_unfolding_all exact rfl) ?_ | refine at_exit (by with_unfolding_all exact rfl) ?_ | refine at_ret (by with_unfolding_all exact rfl) ?_ | refine at_skip (by with_unfolding_all exact rfl) ?_ | refine at_label (by with_unfolding_all exact rfl) ?_) <;> try simp -implicitDefEqProofs (maxSteps := 1000000) only [go_sem, seval, *]) | (with_reducible first | refine at_block (by with_unfolding_all exact rfl) ?_ | refine at_loop (by with_unfolding_all exact rfl) ?_) | ((first | ((with_reducible refine NewK.intro fun g hg hn => ?_) <;> try simp only [own_none_iff] at hn) | ((with_reducible first | refine GuardB.split (fun hc => ?_) (fun hc => ?_) | refine CondK.split (fun hc => ?_) (fun hc => ?_) | refine PickK.split (fun hc => ?_) (fun hc => ?_) | refine GuardD.split (fun hc => ?_) (fun hc => ?_)) <;> (have hc2 := hc; try simp only [beq_eq_false_iff_ne, beq_iff_eq, ne_eq, bne_iff_ne, bne_eq_false_iff_eq, decide_eq_true_eq, decide_eq_false_iff_not, Bool.not_true, Bool.not_false, Int.not_le, Int.not_lt] at hc2)) | (with_reducible first | refine dop_buildSlice ?_ | refine dop_build ?_) | ((with_reducible refine Cr.call (f := 44) (lspan_ok _ _ _) ?_)) | (with_reducible refine CallV.of (f := 44) (lspan_ok _ _ _) ni44 ?_)) <;> simp -implicitDefEqProofs (maxSteps := 1000000) only [go_sem, seval, *]))
/-! ### Zones that are moved -/
def shO (d : Int) (o : Ord) : Ord := ⟨o.pc, o.st, o.z0 + d, o.z1 + d⟩
theorem sh_get (d : Int) (os : List Ord) (i : Nat) (h : i < os.length) : ordAt (os.map (shO d)) i = shO d (ordAt os i) := by
  unfold ordAt
  rw [List.getD_eq_getElem?_getD, List.getD_eq_getElem?_getD, List.getElem?_map, List.getElem?_eq_getElem h]
  rfl
theorem sh_st (d : Int) (os : List Ord) (i : Nat) : (ordAt (os.map (shO d)) i).st = (ordAt os i).st := by
  unfold ordAt
  rw [List.getD_eq_getElem?_getD, List.getD_eq_getElem?_getD, List.getElem?_map]
  cases os[i]? <;> rfl
theorem sh_fst (d : Int) (os : List Ord) (i : Nat) : fstV (os.map (shO d)) i = fstV os i := by
  unfold fstV
  rw [← List.map_take, List.map_map]
  rfl
theorem sh_fN (d : Int) (os : List Ord) (i : Nat) : fN (os.map (shO d)) i = fN os i := by
  unfold fN
  rw [← List.map_take, List.map_map]
  rfl
theorem sh_all (d : Int) (os : List Ord) : allN (os.map (shO d)) = allN os := by
  unfold allN
  rw [sh_fN, List.length_map]
theorem sh_many (d : Int) (os : List Ord) (fr to : Int) (i : Nat) : manyV (os.map (shO d)) fr to i = manyV os fr to i := by
  unfold manyV
  rw [sh_fst, sh_fst]
theorem sh_wear (d : Int) (ws : List (Int × Int)) (os : List Ord) (fr to : Int) : ∀ i, wearN ws (os.map (shO d)) fr to i = wearN ws os fr to i
  | 0 => rfl
  | i + 1 => by rw [wearN, wearN, sh_wear d ws os fr to i, sh_many, sh_st]
theorem sh_tgX (d s0 s1 c0 c1 : Int) (ws : List (Int × Int)) (os : List Ord) (fr to : Int) (i : Nat) (h : i < os.length) :
    (tgX s0 s1 c0 c1 ws (os.map (shO d)) fr to i).1 = (tgX s0 s1 c0 c1 ws os fr to i).1 + d ∧ (tgX s0 s1 c0 c1 ws (os.map (shO d)) fr to i).2 = (tgX s0 s1 c0 c1 ws os fr to i).2 + d := by
  unfold tgX
  rw [sh_get d os i h, sh_wear, sh_many]
  refine ⟨?_, ?_⟩
  · show (ordAt os i).z0 + d - (s0 + c0) - _ = _
    omega
  · show (ordAt os i).z1 + d - (s1 + c1) - (wearN ws os fr to i).2 - (wrAt ws (ordAt os i).st).2 * (manyV os fr to i - 1) = (ordAt os i).z1 - (s1 + c1) - (wearN ws os fr to i).2 - (wrAt ws (ordAt os i).st).2 * (manyV os fr to i - 1) + d
    omega
theorem sh_tgN (d s0 s1 c0 c1 : Int) (ws : List (Int × Int)) (os : List Ord) (fr to : Int) : ∀ i, i ≤ os.length → (tgN s0 s1 c0 c1 ws (os.map (shO d)) fr to i).2.2 = (tgN s0 s1 c0 c1 ws os fr to i).2.2 ∧
    ((tgN s0 s1 c0 c1 ws os fr to i).2.2 = true → (tgN s0 s1 c0 c1 ws (os.map (shO d)) fr to i).1 = (tgN s0 s1 c0 c1 ws os fr to i).1 + d ∧ (tgN s0 s1 c0 c1 ws (os.map (shO d)) fr to i).2.1 = (tgN s0 s1 c0 c1 ws os fr to i).2.1 + d) ∧
    ((tgN s0 s1 c0 c1 ws os fr to i).2.2 = false → tgN s0 s1 c0 c1 ws (os.map (shO d)) fr to i = (0, 0, false) ∧ tgN s0 s1 c0 c1 ws os fr to i = (0, 0, false))
  | 0, _ => ⟨rfl, (by intro h; cases h), fun _ => ⟨rfl, rfl⟩⟩
  | i + 1, hi => by
    obtain ⟨h1, h2, h3⟩ := sh_tgN d s0 s1 c0 c1 ws os fr to i (by omega)
    obtain ⟨x1, x2⟩ := sh_tgX d s0 s1 c0 c1 ws os fr to i (by omega)
    rw [tgN, tgN, sh_many]
    split
    · cases hb : (tgN s0 s1 c0 c1 ws os fr to i).2.2 with
      | true =>
        rw [hb] at h1
        rw [if_pos h1, if_pos rfl]
        obtain ⟨y1, y2⟩ := h2 hb
        refine ⟨rfl, fun _ => ⟨?_, ?_⟩, by intro h; cases h⟩
        · show max _ _ = max _ _ + d
          rw [y1, x1]; omega
        · show min _ _ = min _ _ + d
          rw [y2, x2]; omega
      | false =>
        rw [hb] at h1
        rw [if_neg (by rw [h1]; decide), if_neg (by decide)]
        exact ⟨rfl, fun _ => ⟨x1, x2⟩, by intro h; cases h⟩
    · exact ⟨h1, h2, h3⟩
theorem sh_can (d s0 s1 c0 c1 : Int) (ws : List (Int × Int)) (os : List Ord) (fr to : Int) : canV s0 s1 c0 c1 ws (os.map (shO d)) fr to = canV s0 s1 c0 c1 ws os fr to := by
  obtain ⟨h1, h2, h3⟩ := sh_tgN d s0 s1 c0 c1 ws os fr to os.length (Nat.le_refl _)
  unfold canV tgF
  rw [List.length_map]
  cases hb : (tgN s0 s1 c0 c1 ws os fr to os.length).2.2 with
  | true =>
    obtain ⟨y1, y2⟩ := h2 hb
    dsimp only
    rw [y1, y2]
    congr 1
    simp
  | false =>
    obtain ⟨y1, y2⟩ := h3 hb
    rw [y1, y2]
theorem sh_tgF {nw : Nat} (d s0 s1 c0 c1 : Int) (ws : List (Int × Int)) (os : List Ord) (hO : OrdsOk nw os) (hW : WearsOk nw ws) (fr to : Nat) (hf : fr < to) (ht : to ≤ allN os) :
    tgF s0 s1 c0 c1 ws (os.map (shO d)) fr to = ((tgF s0 s1 c0 c1 ws os fr to).1 + d, (tgF s0 s1 c0 c1 ws os fr to).2 + d) := by
  obtain ⟨h1, h2, h3⟩ := sh_tgN d s0 s1 c0 c1 ws os fr to os.length (Nat.le_refl _)
  have hb : (tgN s0 s1 c0 c1 ws os fr to os.length).2.2 = true := by
    have := (tg_eI (s0 := s0) (s1 := s1) (c0 := c0) (c1 := c1) hO hW (fr := fr) (to := to) (by omega) os.length (Nat.le_refl _)).1
    rw [this, eI_len (by omega) ht]
    simpa using hf
  obtain ⟨y1, y2⟩ := h2 hb
  unfold tgF
  rw [List.length_map, y1, y2]
theorem sh_reach (d s0 s1 c0 c1 : Int) (ws : List (Int × Int)) (os : List Ord) (fr : Nat) : reachV s0 s1 c0 c1 ws (os.map (shO d)) fr = reachV s0 s1 c0 c1 ws os fr := by
  unfold reachV
  rw [sh_all]
  simp only [sh_can]
theorem sh_step (d s0 s1 c0 c1 : Int) (ws : List (Int × Int)) (os : List Ord) : ∀ k fr, stepN s0 s1 c0 c1 ws (os.map (shO d)) k fr = stepN s0 s1 c0 c1 ws os k fr
  | 0, _ => rfl
  | k + 1, fr => by rw [stepN, stepN, sh_reach, sh_step d s0 s1 c0 c1 ws os k]
theorem sh_planF (dn dn' : Bool) (d s0 s1 c0 c1 : Int) (ws : List (Int × Int)) (os : List Ord) : ∀ k fr, (planF dn' s0 s1 c0 c1 ws (os.map (shO d)) k fr).map Prod.fst = (planF dn s0 s1 c0 c1 ws os k fr).map Prod.fst
  | 0, _ => rfl
  | k + 1, fr => by
    rw [planF, planF, sh_all, sh_reach]
    split
    · rw [List.map_cons, List.map_cons, sh_planF dn dn' d s0 s1 c0 c1 ws os k]
    · rfl
theorem sh_end (d s0 s1 c0 c1 : Int) (ws : List (Int × Int)) (os : List Ord) : endV s0 s1 c0 c1 ws (os.map (shO d)) = endV s0 s1 c0 c1 ws os := by
  unfold endV
  rw [sh_all, sh_step]

end Go.Proofs.Ytlbpfmnobapidaa
