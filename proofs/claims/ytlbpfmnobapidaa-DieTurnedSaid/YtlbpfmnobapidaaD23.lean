/-
  Walks. Conditions: none.
-/
import Derived.Test.YtlbpfmnobapidaaD22
set_option linter.unusedVariables false
set_option linter.unusedSimpArgs false
namespace Go.Proofs.Ytlbpfmnobapidaa
open Go.RowKit Go.SL
set_option maxHeartbeats 1000000
set_option maxRecDepth 1000000
attribute [local go_sem] fl_getD fl_get fl_set lk_def st_def gL_nil gL_zero gL_succ sL_nil_zero sL_nil_succ sL_zero sL_succ Option.getD_none FgK_app onlyL_nil onlyL_none onlyL_some setO_some toB_bool toB_undef yl_def
attribute [local go_sem high] GuardK_yl GuardL_yl
attribute [local go_sem] initL_one initL_cons lastL_one lastL_cons LastK_app fin_round Fr.inr_w0 Fr.inr_ro Fr.inr_M cell_inr LoopO_some YieldK_some RoundQ_normal RoundQ_ret RoundQ_exit EndR_none EndR_some BegK_app BegR_some OutR_none OutR_ret OutR_exit LeftR_some LeftK_app
attribute [local go_sem] i64w
attribute [local go_sem] dwp_eqGuardE dwp_eqGuardN rval_eqGuardE rval_eqGuardN
attribute [local go_sem] add_none
/-- Less of what is owned is enough. -/
theorem DCall.small {P : Program} {F : Fr} {f : FuncId} {args : Array Value} {h h0 : Hp} {K : Value → Hp → Prop} (hs : ∀ y o, h0.own y = some o → h.own y = some o) (c : DCall P F f args h0 K) : DCall P F f args h K :=
  ⟨fun w r => c.out w (r.sub hs)⟩
theorem lspan_ok (ro : Addr → Option Value) (a b : Int) : Cr Try.prog 44 #[.int .i64 a, .int .i64 b] ro (.agg #[.int .i64 a, .int .i64 b]) := by
  (refine Cr.ofP (l := _) Try.func44 Try.ntmps44 rfl rfl (by simp only [seval, List.length_cons, List.length_nil]) (by simp only [seval, List.length_cons, List.length_nil]) (fun F hF => ?_); simp only [Try.results44, List.map_cons, List.map_nil])
  subst hF
  repeat' (first | (with_reducible refine at_seq (by with_unfolding_all exact rfl) ?_) | ((with_reducible first | refine at_plain (by with_unfolding_all exact rfl) ?_ | refine at_cond (by with_unfolding_all exact rfl) ?_ | refine at_exit (by with_unfolding_all exact rfl) ?_ | refine at_ret (by with_unfolding_all exact rfl) ?_ | refine at_skip (by with_unfolding_all exact rfl) ?_ | refine at_label (by with_unfolding_all exact rfl) ?_) <;> try simp -implicitDefEqProofs (maxSteps := 1000000) only [go_sem, seval, *]) | (with_reducible first | refine at_block (by with_unfolding_all exact rfl) ?_ | refine at_loop (by with_unfolding_all exact rfl) ?_) | ((first | ((with_reducible refine NewK.intro fun g hg hn => ?_) <;> try simp only [own_none_iff] at hn) | ((with_reducible first | refine GuardB.split (fun hc => ?_) (fun hc => ?_) | refine CondK.split (fun hc => ?_) (fun hc => ?_) | refine PickK.split (fun hc => ?_) (fun hc => ?_) | refine GuardD.split (fun hc => ?_) (fun hc => ?_)) <;> (have hc2 := hc; try simp only [beq_eq_false_iff_ne, beq_iff_eq, ne_eq, bne_iff_ne, bne_eq_false_iff_eq, decide_eq_true_eq, decide_eq_false_iff_not, Bool.not_true, Bool.not_false, Int.not_le, Int.not_lt] at hc2)) | (with_reducible first | refine dop_buildSlice ?_ | refine dop_build ?_)) <;> simp -implicitDefEqProofs (maxSteps := 1000000) only [go_sem, seval, *]))
theorem RdS.made {F : Fr} {h : Hp} {g e size n : Nat} {xs : List Value} (hg : F.w0.heap.size ≤ g) (ho : h.own g = some (.cells xs.toArray e (0, 0))) (hl : xs.length = n * size) (hn : 0 < n) : RdS (h.cell? F) (some ⟨g, 0, none⟩) n size xs := by
  obtain ⟨g', c', e, rd⟩ := (Own.made hg ho hl).some hn
  cases e
  exact RdS.of rd
theorem Own.rds {F : Fr} {h : Hp} {g cap e size n : Nat} {xs : List Value} (o : Own F h e size (.slice (some ⟨g, 0, none⟩) n cap) n xs) (hn : 0 < n) : RdS (h.cell? F) (some ⟨g, 0, none⟩) n size xs := by
  obtain ⟨g', c', e, rd⟩ := o.some hn
  cases e
  exact RdS.of rd
theorem ltool_S (F : Fr) (h : Hp) (K : Value → Hp → Prop)
    (hK : Hold (∀ g h', (∀ y o, h.own y = some o → h'.own y = some o) → RdS (h'.cell? F) (some ⟨g, 0, none⟩) 2 2 ([((10 : Int), (20 : Int)), (50, 100)].flatMap spC) → K (.agg #[.bool false, .int .i64 (-1000), .int .i64 1000, .int .i64 (-500), .int .i64 500, .slice (some ⟨g, 0, none⟩) 2 2]) h')) :
    DCall Try.prog F 57 #[] h K := by
  (refine DCall.inlP (l := _) Try.func57 Try.ntmps57 rfl rfl (by simp only [seval, List.length_cons, List.length_nil]) (by simp only [seval, List.length_cons, List.length_nil]) ?_; simp only [Try.results57, List.map_cons, List.map_nil])
  repeat' (first | (with_reducible refine at_seq (by with_unfolding_all exact rfl) ?_) | ((with_reducible first | refine at_plain (by with_unfolding_all exact rfl) ?_ | refine at_cond (by with_unfolding_all exact rfl) ?_ | refine at_exit (by with_unfolding_all exact rfl) ?_ | refine at_ret (by with_unfolding_all exact rfl) ?_ | refine at_skip (by with_unfolding_all exact rfl) ?_ | refine at_label (by with_unfolding_all exact rfl) ?_) <;> try simp -implicitDefEqProofs (maxSteps := 1000000) only [go_sem, seval, *]) | (with_reducible first | refine at_block (by with_unfolding_all exact rfl) ?_ | refine at_loop (by with_unfolding_all exact rfl) ?_) | ((first | ((with_reducible refine NewK.intro fun g hg hn => ?_) <;> try simp only [own_none_iff] at hn) | ((with_reducible first | refine GuardB.split (fun hc => ?_) (fun hc => ?_) | refine CondK.split (fun hc => ?_) (fun hc => ?_) | refine PickK.split (fun hc => ?_) (fun hc => ?_) | refine GuardD.split (fun hc => ?_) (fun hc => ?_)) <;> (have hc2 := hc; try simp only [beq_eq_false_iff_ne, beq_iff_eq, ne_eq, bne_iff_ne, bne_eq_false_iff_eq, decide_eq_true_eq, decide_eq_false_iff_not, Bool.not_true, Bool.not_false, Int.not_le, Int.not_lt] at hc2)) | (with_reducible first | refine dop_buildSlice ?_ | refine dop_build ?_) | ((with_reducible refine Cr.call (f := 44) (lspan_ok _ _ _) ?_)) | (with_reducible refine CallV.of (f := 44) (lspan_ok _ _ _) ni44 ?_)) <;> simp -implicitDefEqProofs (maxSteps := 1000000) only [go_sem, seval, *]))
  rename_i g0 hg0 hn0
  have gl := hn.2.2
  exact hK.out g _ (subS (subS (subS sub_refl hn0) gl) hn0) (RdS.made hg (e := 23) (xs := [.int .i64 10, .int .i64 20, .int .i64 50, .int .i64 100]) (by simp -implicitDefEqProofs (maxSteps := 1000000) only [go_sem, seval, *]) rfl (by decide))
theorem lorders_S (F : Fr) (h : Hp) (K : Value → Hp → Prop)
    (hK : Hold (∀ g h', (∀ y o, h.own y = some o → h'.own y = some o) → RdS (h'.cell? F) (some ⟨g, 0, none⟩) 2 4 ([Ord.mk 200 0 100000 110000, Ord.mk 100 1 100000 110000].flatMap oC) → K (.slice (some ⟨g, 0, none⟩) 2 2) h')) :
    DCall Try.prog F 58 #[] h K := by
  (refine DCall.inlP (l := _) Try.func58 Try.ntmps58 rfl rfl (by simp only [seval, List.length_cons, List.length_nil]) (by simp only [seval, List.length_cons, List.length_nil]) ?_; simp only [Try.results58, List.map_cons, List.map_nil])
  repeat' (first | (with_reducible refine at_seq (by with_unfolding_all exact rfl) ?_) | ((with_reducible first | refine at_plain (by with_unfolding_all exact rfl) ?_ | refine at_cond (by with_unfolding_all exact rfl) ?_ | refine at_exit (by with_unfolding_all exact rfl) ?_ | refine at_ret (by with_unfolding_all exact rfl) ?_ | refine at_skip (by with_unfolding_all exact rfl) ?_ | refine at_label (by with_unfolding_all exact rfl) ?_) <;> try simp -implicitDefEqProofs (maxSteps := 1000000) only [go_sem, seval, *]) | (with_reducible first | refine at_block (by with_unfolding_all exact rfl) ?_ | refine at_loop (by with_unfolding_all exact rfl) ?_) | ((first | ((with_reducible refine NewK.intro fun g hg hn => ?_) <;> try simp only [own_none_iff] at hn) | ((with_reducible first | refine GuardB.split (fun hc => ?_) (fun hc => ?_) | refine CondK.split (fun hc => ?_) (fun hc => ?_) | refine PickK.split (fun hc => ?_) (fun hc => ?_) | refine GuardD.split (fun hc => ?_) (fun hc => ?_)) <;> (have hc2 := hc; try simp only [beq_eq_false_iff_ne, beq_iff_eq, ne_eq, bne_iff_ne, bne_eq_false_iff_eq, decide_eq_true_eq, decide_eq_false_iff_not, Bool.not_true, Bool.not_false, Int.not_le, Int.not_lt] at hc2)) | (with_reducible first | refine dop_buildSlice ?_ | refine dop_build ?_) | ((with_reducible refine Cr.call (f := 44) (lspan_ok _ _ _) ?_)) | (with_reducible refine CallV.of (f := 44) (lspan_ok _ _ _) ni44 ?_)) <;> simp -implicitDefEqProofs (maxSteps := 1000000) only [go_sem, seval, *]))
  exact hK.out g _ (subS sub_refl hn) (RdS.made hg (e := 88) (xs := [.int .i64 200, .int .i64 0, .int .i64 100000, .int .i64 110000, .int .i64 100, .int .i64 1, .int .i64 100000, .int .i64 110000]) (by simp -implicitDefEqProofs (maxSteps := 1000000) only [go_sem, seval, *]) rfl (by decide))
theorem inf_span : okInfo Try.prog 23 2 16 = true := by kernel_rfl
theorem notAgg_spC (ws : List (Int × Int)) : ∀ y ∈ ws.flatMap spC, notAgg y = true := by
  intro y hy
  obtain ⟨w, _, h⟩ := List.mem_flatMap.1 hy
  simp only [spC, List.mem_cons, List.not_mem_nil, or_false] at h
  rcases h with rfl | rfl <;> rfl
theorem lcopied_S (F : Fr) (h : Hp) (K : Value → Hp → Prop) (dn : Bool) (s0 s1 c0 c1 : Int) (pw : Option Addr) (nw cw : Nat) (ws : List (Int × Int)) (hx : Hold (RdS (h.cell? F) pw nw 2 (ws.flatMap spC))) (hN : Hold (1 ≤ nw ∧ nw ≤ 1000000))
    (hK : Hold (∀ g cw' h', (∀ y o, h.own y = some o → h'.own y = some o) → h.own g = none → Own F h' 23 2 (.slice (some ⟨g, 0, none⟩) nw cw') nw (ws.flatMap spC) → K (.agg #[.bool dn, .int .i64 s0, .int .i64 s1, .int .i64 c0, .int .i64 c1, .slice (some ⟨g, 0, none⟩) nw cw']) h')) :
    DCall Try.prog F 15 #[.agg #[.bool dn, .int .i64 s0, .int .i64 s1, .int .i64 c0, .int .i64 c1, .slice pw nw cw]] h K := by
  refine DCall.weak ?_
  obtain ⟨b, off, rfl, rd⟩ := hx.out.pos hN.out.1
  have rdH := Hold.mk rd
  clear rd hx
  (refine DCall.inlP (l := _) Try.func15 Try.ntmps15 rfl rfl (by simp only [seval, List.length_cons, List.length_nil]) (by simp only [seval, List.length_cons, List.length_nil]) ?_; simp only [Try.results15, List.map_cons, List.map_nil])
  repeat' (first | (with_reducible refine at_seq (by with_unfolding_all exact rfl) ?_) | ((with_reducible first | refine at_plain (by with_unfolding_all exact rfl) ?_ | refine at_cond (by with_unfolding_all exact rfl) ?_ | refine at_exit (by with_unfolding_all exact rfl) ?_ | refine at_ret (by with_unfolding_all exact rfl) ?_ | refine at_skip (by with_unfolding_all exact rfl) ?_ | refine at_label (by with_unfolding_all exact rfl) ?_) <;> try simp -implicitDefEqProofs (maxSteps := 1000000) only [go_sem, seval, *]) | (with_reducible first | refine at_block (by with_unfolding_all exact rfl) ?_ | refine at_loop (by with_unfolding_all exact rfl) ?_) | ((first | ((with_reducible refine NewK.intro fun g hg hn => ?_) <;> try simp only [own_none_iff] at hn) | ((with_reducible first | refine GuardB.split (fun hc => ?_) (fun hc => ?_) | refine CondK.split (fun hc => ?_) (fun hc => ?_) | refine PickK.split (fun hc => ?_) (fun hc => ?_) | refine GuardD.split (fun hc => ?_) (fun hc => ?_)) <;> (have hc2 := hc; try simp only [beq_eq_false_iff_ne, beq_iff_eq, ne_eq, bne_iff_ne, bne_eq_false_iff_eq, decide_eq_true_eq, decide_eq_false_iff_not, Bool.not_true, Bool.not_false, Int.not_le, Int.not_lt] at hc2)) | (with_reducible first | refine dop_buildSlice ?_ | refine dop_build ?_)) <;> simp -implicitDefEqProofs (maxSteps := 1000000) only [go_sem, seval, *]))
  rename_i g1 hg1 hn1 g2 hg2 hn2
  have n2 := hn2.2.2
  have n3 := hn.2.2.2.2
  refine AppD.own Try.underlying24 inf_span (by decide) (by have := hN.out; omega) (Own.made (n := 0) (xs := []) hg (by simp -implicitDefEqProofs (maxSteps := 1000000) only [go_sem, seval, *]) rfl) (ys := ws.flatMap spC) (readV_mono (fun a u e => sub_cell (subS (subS (subS sub_refl hn1) n2) n3) e) rdH.out) (notAgg_spC ws) (by have := hN.out; omega) fun u gA obA hA bA r1 => ?_
  have r1' := Hold.mk r1
  have hnA : h.own gA = none ∧ gA ≠ g1 ∧ gA ≠ g2 := by
    rcases hA with e | ⟨e, _⟩
    · cases e; exact ⟨n3, hn.2.2.1, hn.1⟩
    · simp only [own_none_iff] at e; exact ⟨e.2.2.2.2.2.2, e.2.2.2.2.1, e.2.2.1⟩
  clear r1 hA
  obtain ⟨pu, cu, rfl⟩ := r1'.out.len
  obtain rfl : pu = some ⟨gA, 0, none⟩ := by
    obtain ⟨g', c', e, _⟩ := r1'.out.some (by have := hN.out; omega)
    cases e
    cases bA
    rfl
  have y1 := neG hnA.2.1
  have y2 := neG hnA.2.2
  simp -implicitDefEqProofs (maxSteps := 1000000) only [go_sem, seval, *]
  repeat' (first | (with_reducible refine at_seq (by with_unfolding_all exact rfl) ?_) | ((with_reducible first | refine at_plain (by with_unfolding_all exact rfl) ?_ | refine at_cond (by with_unfolding_all exact rfl) ?_ | refine at_exit (by with_unfolding_all exact rfl) ?_ | refine at_ret (by with_unfolding_all exact rfl) ?_ | refine at_skip (by with_unfolding_all exact rfl) ?_ | refine at_label (by with_unfolding_all exact rfl) ?_) <;> try simp -implicitDefEqProofs (maxSteps := 1000000) only [go_sem, seval, *]) | (with_reducible first | refine at_block (by with_unfolding_all exact rfl) ?_ | refine at_loop (by with_unfolding_all exact rfl) ?_) | ((first | ((with_reducible refine NewK.intro fun g hg hn => ?_) <;> try simp only [own_none_iff] at hn) | ((with_reducible first | refine GuardB.split (fun hc => ?_) (fun hc => ?_) | refine CondK.split (fun hc => ?_) (fun hc => ?_) | refine PickK.split (fun hc => ?_) (fun hc => ?_) | refine GuardD.split (fun hc => ?_) (fun hc => ?_)) <;> (have hc2 := hc; try simp only [beq_eq_false_iff_ne, beq_iff_eq, ne_eq, bne_iff_ne, bne_eq_false_iff_eq, decide_eq_true_eq, decide_eq_false_iff_not, Bool.not_true, Bool.not_false, Int.not_le, Int.not_lt] at hc2)) | (with_reducible first | refine dop_buildSlice ?_ | refine dop_build ?_)) <;> simp -implicitDefEqProofs (maxSteps := 1000000) only [go_sem, seval, *]))
  refine ⟨_, sub_refl, hK.out gA cu _ (subS (subS (subS (subS (subS (subS sub_refl hn1) n2) n3) hnA.1) hn1) n2) hnA.1 ?_⟩
  have := r1'.out
  rw [List.nil_append, Nat.zero_add] at this
  exact Own.at_ (gA := gA) this rfl (by simp -implicitDefEqProofs (maxSteps := 1000000) only [go_sem, seval, *])
theorem notAgg_ords (xs : List Ord) : ∀ y ∈ xs.flatMap oC, notAgg y = true := by
  intro y hy
  obtain ⟨w, _, h⟩ := List.mem_flatMap.1 hy
  exact notAgg_ord w y h
theorem planV_pos {dn : Bool} {s0 s1 c0 c1 : Int} {ws : List (Int × Int)} {os : List Ord} (h : 1 ≤ allN os) (he : endV s0 s1 c0 c1 ws os = allN os) : 0 < (planV dn s0 s1 c0 c1 ws os).length := by
  unfold planV
  unfold endV at he
  have rb := reachV_bd (s0 := s0) (s1 := s1) (c0 := c0) (c1 := c1) (ws := ws) (os := os) (fr := 0) (by omega)
  obtain ⟨A, hA⟩ : ∃ A, allN os = A + 1 := ⟨allN os - 1, by omega⟩
  by_cases e : reachV s0 s1 c0 c1 ws os 0 = 0
  · rw [stepN_fix e] at he; omega
  · rw [hA, planF, if_pos ⟨by omega, by omega⟩]
    simp
theorem llist_S (F : Fr) (h : Hp) (K : Value → Hp → Prop) (p : Option Addr) (n c : Nat) (xs : List Ord) (hx : Hold (RdS (h.cell? F) p n 4 (xs.flatMap oC))) (hN : Hold (1 ≤ n ∧ n ≤ 1000000))
    (hK : Hold (∀ g c' h', (∀ y o, h.own y = some o → h'.own y = some o) → h.own g = none → Own F h' 88 4 (.slice (some ⟨g, 0, none⟩) n c') n (xs.flatMap oC) → K (.slice (some ⟨g, 0, none⟩) n c') h')) :
    DCall Try.prog F 16 #[.slice p n c] h K := by
  refine DCall.weak ?_
  obtain ⟨b, off, rfl, rd⟩ := hx.out.pos hN.out.1
  have rdH := Hold.mk rd
  clear rd hx
  (refine DCall.inlP (l := _) Try.func16 Try.ntmps16 rfl rfl (by simp only [seval, List.length_cons, List.length_nil]) (by simp only [seval, List.length_cons, List.length_nil]) ?_; simp only [Try.results16, List.map_cons, List.map_nil])
  repeat' (first | (with_reducible refine at_seq (by with_unfolding_all exact rfl) ?_) | ((with_reducible first | refine at_plain (by with_unfolding_all exact rfl) ?_ | refine at_cond (by with_unfolding_all exact rfl) ?_ | refine at_exit (by with_unfolding_all exact rfl) ?_ | refine at_ret (by with_unfolding_all exact rfl) ?_ | refine at_skip (by with_unfolding_all exact rfl) ?_ | refine at_label (by with_unfolding_all exact rfl) ?_) <;> try simp -implicitDefEqProofs (maxSteps := 1000000) only [go_sem, seval, *]) | (with_reducible first | refine at_block (by with_unfolding_all exact rfl) ?_ | refine at_loop (by with_unfolding_all exact rfl) ?_) | ((first | ((with_reducible refine NewK.intro fun g hg hn => ?_) <;> try simp only [own_none_iff] at hn) | ((with_reducible first | refine GuardB.split (fun hc => ?_) (fun hc => ?_) | refine CondK.split (fun hc => ?_) (fun hc => ?_) | refine PickK.split (fun hc => ?_) (fun hc => ?_) | refine GuardD.split (fun hc => ?_) (fun hc => ?_)) <;> (have hc2 := hc; try simp only [beq_eq_false_iff_ne, beq_iff_eq, ne_eq, bne_iff_ne, bne_eq_false_iff_eq, decide_eq_true_eq, decide_eq_false_iff_not, Bool.not_true, Bool.not_false, Int.not_le, Int.not_lt] at hc2)) | (with_reducible first | refine dop_buildSlice ?_ | refine dop_build ?_)) <;> simp -implicitDefEqProofs (maxSteps := 1000000) only [go_sem, seval, *]))
  refine AppD.own Try.underlying27 inf_ord (by decide) (by have := hN.out; omega) (Own.made (n := 0) (xs := []) hg (by simp -implicitDefEqProofs (maxSteps := 1000000) only [go_sem, seval, *]) rfl) (ys := xs.flatMap oC) (readV_mono (fun a u e => sub_cell (subS sub_refl hn) e) rdH.out) (notAgg_ords xs) (by have := hN.out; omega) fun u gA obA hA bA r1 => ?_
  have r1' := Hold.mk r1
  have hnA : h.own gA = none := by
    rcases hA with e | ⟨e, _⟩
    · cases e; exact hn
    · simp only [own_none_iff] at e; exact e.2.2
  clear r1 hA
  obtain ⟨pu, cu, rfl⟩ := r1'.out.len
  obtain rfl : pu = some ⟨gA, 0, none⟩ := by
    obtain ⟨g', c', e, _⟩ := r1'.out.some (by have := hN.out; omega)
    cases e
    cases bA
    rfl
  simp -implicitDefEqProofs (maxSteps := 1000000) only [go_sem, seval, *]
  repeat' (first | (with_reducible refine at_seq (by with_unfolding_all exact rfl) ?_) | ((with_reducible first | refine at_plain (by with_unfolding_all exact rfl) ?_ | refine at_cond (by with_unfolding_all exact rfl) ?_ | refine at_exit (by with_unfolding_all exact rfl) ?_ | refine at_ret (by with_unfolding_all exact rfl) ?_ | refine at_skip (by with_unfolding_all exact rfl) ?_ | refine at_label (by with_unfolding_all exact rfl) ?_) <;> try simp -implicitDefEqProofs (maxSteps := 1000000) only [go_sem, seval, *]) | (with_reducible first | refine at_block (by with_unfolding_all exact rfl) ?_ | refine at_loop (by with_unfolding_all exact rfl) ?_) | ((first | ((with_reducible refine NewK.intro fun g hg hn => ?_) <;> try simp only [own_none_iff] at hn) | ((with_reducible first | refine GuardB.split (fun hc => ?_) (fun hc => ?_) | refine CondK.split (fun hc => ?_) (fun hc => ?_) | refine PickK.split (fun hc => ?_) (fun hc => ?_) | refine GuardD.split (fun hc => ?_) (fun hc => ?_)) <;> (have hc2 := hc; try simp only [beq_eq_false_iff_ne, beq_iff_eq, ne_eq, bne_iff_ne, bne_eq_false_iff_eq, decide_eq_true_eq, decide_eq_false_iff_not, Bool.not_true, Bool.not_false, Int.not_le, Int.not_lt] at hc2)) | (with_reducible first | refine dop_buildSlice ?_ | refine dop_build ?_)) <;> simp -implicitDefEqProofs (maxSteps := 1000000) only [go_sem, seval, *]))
  refine ⟨_, sub_refl, hK.out gA cu _ (subS (subS sub_refl hn) hnA) hnA ?_⟩
  have := r1'.out
  rw [List.nil_append, Nat.zero_add] at this
  exact this
theorem lsettings_S (F : Fr) (h : Hp) (K : Value → Hp → Prop) (p : Option Addr) (n c : Nat) (xs : List (Int × Int)) (hx : Hold (RdS (h.cell? F) p n 2 (xs.flatMap spC))) (hN : Hold (1 ≤ n ∧ n ≤ 1000000))
    (hK : Hold (∀ g c' h', (∀ y o, h.own y = some o → h'.own y = some o) → h.own g = none → Own F h' 51 2 (.slice (some ⟨g, 0, none⟩) n c') n (xs.flatMap spC) → K (.slice (some ⟨g, 0, none⟩) n c') h')) :
    DCall Try.prog F 32 #[.slice p n c] h K := by
  refine DCall.weak ?_
  obtain ⟨b, off, rfl, rd⟩ := hx.out.pos hN.out.1
  have rdH := Hold.mk rd
  clear rd hx
  (refine DCall.inlP (l := _) Try.func32 Try.ntmps32 rfl rfl (by simp only [seval, List.length_cons, List.length_nil]) (by simp only [seval, List.length_cons, List.length_nil]) ?_; simp only [Try.results32, List.map_cons, List.map_nil])
  repeat' (first | (with_reducible refine at_seq (by with_unfolding_all exact rfl) ?_) | ((with_reducible first | refine at_plain (by with_unfolding_all exact rfl) ?_ | refine at_cond (by with_unfolding_all exact rfl) ?_ | refine at_exit (by with_unfolding_all exact rfl) ?_ | refine at_ret (by with_unfolding_all exact rfl) ?_ | refine at_skip (by with_unfolding_all exact rfl) ?_ | refine at_label (by with_unfolding_all exact rfl) ?_) <;> try simp -implicitDefEqProofs (maxSteps := 1000000) only [go_sem, seval, *]) | (with_reducible first | refine at_block (by with_unfolding_all exact rfl) ?_ | refine at_loop (by with_unfolding_all exact rfl) ?_) | ((first | ((with_reducible refine NewK.intro fun g hg hn => ?_) <;> try simp only [own_none_iff] at hn) | ((with_reducible first | refine GuardB.split (fun hc => ?_) (fun hc => ?_) | refine CondK.split (fun hc => ?_) (fun hc => ?_) | refine PickK.split (fun hc => ?_) (fun hc => ?_) | refine GuardD.split (fun hc => ?_) (fun hc => ?_)) <;> (have hc2 := hc; try simp only [beq_eq_false_iff_ne, beq_iff_eq, ne_eq, bne_iff_ne, bne_eq_false_iff_eq, decide_eq_true_eq, decide_eq_false_iff_not, Bool.not_true, Bool.not_false, Int.not_le, Int.not_lt] at hc2)) | (with_reducible first | refine dop_buildSlice ?_ | refine dop_build ?_)) <;> simp -implicitDefEqProofs (maxSteps := 1000000) only [go_sem, seval, *]))
  refine AppD.own Try.underlying43 inf_set (by decide) (by have := hN.out; omega) (Own.made (n := 0) (xs := []) hg (by simp -implicitDefEqProofs (maxSteps := 1000000) only [go_sem, seval, *]) rfl) (ys := xs.flatMap spC) (readV_mono (fun a u e => sub_cell (subS sub_refl hn) e) rdH.out) (notAgg_spC xs) (by have := hN.out; omega) fun u gA obA hA bA r1 => ?_
  have r1' := Hold.mk r1
  have hnA : h.own gA = none := by
    rcases hA with e | ⟨e, _⟩
    · cases e; exact hn
    · simp only [own_none_iff] at e; exact e.2.2
  clear r1 hA
  obtain ⟨pu, cu, rfl⟩ := r1'.out.len
  obtain rfl : pu = some ⟨gA, 0, none⟩ := by
    obtain ⟨g', c', e, _⟩ := r1'.out.some (by have := hN.out; omega)
    cases e
    cases bA
    rfl
  simp -implicitDefEqProofs (maxSteps := 1000000) only [go_sem, seval, *]
  repeat' (first | (with_reducible refine at_seq (by with_unfolding_all exact rfl) ?_) | ((with_reducible first | refine at_plain (by with_unfolding_all exact rfl) ?_ | refine at_cond (by with_unfolding_all exact rfl) ?_ | refine at_exit (by with_unfolding_all exact rfl) ?_ | refine at_ret (by with_unfolding_all exact rfl) ?_ | refine at_skip (by with_unfolding_all exact rfl) ?_ | refine at_label (by with_unfolding_all exact rfl) ?_) <;> try simp -implicitDefEqProofs (maxSteps := 1000000) only [go_sem, seval, *]) | (with_reducible first | refine at_block (by with_unfolding_all exact rfl) ?_ | refine at_loop (by with_unfolding_all exact rfl) ?_) | ((first | ((with_reducible refine NewK.intro fun g hg hn => ?_) <;> try simp only [own_none_iff] at hn) | ((with_reducible first | refine GuardB.split (fun hc => ?_) (fun hc => ?_) | refine CondK.split (fun hc => ?_) (fun hc => ?_) | refine PickK.split (fun hc => ?_) (fun hc => ?_) | refine GuardD.split (fun hc => ?_) (fun hc => ?_)) <;> (have hc2 := hc; try simp only [beq_eq_false_iff_ne, beq_iff_eq, ne_eq, bne_iff_ne, bne_eq_false_iff_eq, decide_eq_true_eq, decide_eq_false_iff_not, Bool.not_true, Bool.not_false, Int.not_le, Int.not_lt] at hc2)) | (with_reducible first | refine dop_buildSlice ?_ | refine dop_build ?_)) <;> simp -implicitDefEqProofs (maxSteps := 1000000) only [go_sem, seval, *]))
  refine ⟨_, sub_refl, hK.out gA cu _ (subS (subS sub_refl hn) hnA) hnA ?_⟩
  have := r1'.out
  rw [List.nil_append, Nat.zero_add] at this
  exact this
theorem lints_S (F : Fr) (h : Hp) (K : Value → Hp → Prop) (p : Option Addr) (n c : Nat) (xs : List Int) (hx : Hold (RdS (h.cell? F) p n 1 (ints xs))) (hN : Hold (1 ≤ n ∧ n ≤ 1000000))
    (hK : Hold (∀ g c' h', (∀ y o, h.own y = some o → h'.own y = some o) → h.own g = none → Own F h' 3 1 (.slice (some ⟨g, 0, none⟩) n c') n (ints xs) → K (.slice (some ⟨g, 0, none⟩) n c') h')) :
    DCall Try.prog F 33 #[.slice p n c] h K := by
  refine DCall.weak ?_
  obtain ⟨b, off, rfl, rd⟩ := hx.out.pos hN.out.1
  have rdH := Hold.mk rd
  clear rd hx
  (refine DCall.inlP (l := _) Try.func33 Try.ntmps33 rfl rfl (by simp only [seval, List.length_cons, List.length_nil]) (by simp only [seval, List.length_cons, List.length_nil]) ?_; simp only [Try.results33, List.map_cons, List.map_nil])
  repeat' (first | (with_reducible refine at_seq (by with_unfolding_all exact rfl) ?_) | ((with_reducible first | refine at_plain (by with_unfolding_all exact rfl) ?_ | refine at_cond (by with_unfolding_all exact rfl) ?_ | refine at_exit (by with_unfolding_all exact rfl) ?_ | refine at_ret (by with_unfolding_all exact rfl) ?_ | refine at_skip (by with_unfolding_all exact rfl) ?_ | refine at_label (by with_unfolding_all exact rfl) ?_) <;> try simp -implicitDefEqProofs (maxSteps := 1000000) only [go_sem, seval, *]) | (with_reducible first | refine at_block (by with_unfolding_all exact rfl) ?_ | refine at_loop (by with_unfolding_all exact rfl) ?_) | ((first | ((with_reducible refine NewK.intro fun g hg hn => ?_) <;> try simp only [own_none_iff] at hn) | ((with_reducible first | refine GuardB.split (fun hc => ?_) (fun hc => ?_) | refine CondK.split (fun hc => ?_) (fun hc => ?_) | refine PickK.split (fun hc => ?_) (fun hc => ?_) | refine GuardD.split (fun hc => ?_) (fun hc => ?_)) <;> (have hc2 := hc; try simp only [beq_eq_false_iff_ne, beq_iff_eq, ne_eq, bne_iff_ne, bne_eq_false_iff_eq, decide_eq_true_eq, decide_eq_false_iff_not, Bool.not_true, Bool.not_false, Int.not_le, Int.not_lt] at hc2)) | (with_reducible first | refine dop_buildSlice ?_ | refine dop_build ?_)) <;> simp -implicitDefEqProofs (maxSteps := 1000000) only [go_sem, seval, *]))
  refine AppD.own Try.underlying52 inf_int (by decide) (by have := hN.out; omega) (Own.made (n := 0) (xs := []) hg (by simp -implicitDefEqProofs (maxSteps := 1000000) only [go_sem, seval, *]) rfl) (ys := ints xs) (readV_mono (fun a u e => sub_cell (subS sub_refl hn) e) rdH.out) (notAgg_ints xs) (by have := hN.out; omega) fun u gA obA hA bA r1 => ?_
  have r1' := Hold.mk r1
  have hnA : h.own gA = none := by
    rcases hA with e | ⟨e, _⟩
    · cases e; exact hn
    · simp only [own_none_iff] at e; exact e.2.2
  clear r1 hA
  obtain ⟨pu, cu, rfl⟩ := r1'.out.len
  obtain rfl : pu = some ⟨gA, 0, none⟩ := by
    obtain ⟨g', c', e, _⟩ := r1'.out.some (by have := hN.out; omega)
    cases e
    cases bA
    rfl
  simp -implicitDefEqProofs (maxSteps := 1000000) only [go_sem, seval, *]
  repeat' (first | (with_reducible refine at_seq (by with_unfolding_all exact rfl) ?_) | ((with_reducible first | refine at_plain (by with_unfolding_all exact rfl) ?_ | refine at_cond (by with_unfolding_all exact rfl) ?_ | refine at_exit (by with_unfolding_all exact rfl) ?_ | refine at_ret (by with_unfolding_all exact rfl) ?_ | refine at_skip (by with_unfolding_all exact rfl) ?_ | refine at_label (by with_unfolding_all exact rfl) ?_) <;> try simp -implicitDefEqProofs (maxSteps := 1000000) only [go_sem, seval, *]) | (with_reducible first | refine at_block (by with_unfolding_all exact rfl) ?_ | refine at_loop (by with_unfolding_all exact rfl) ?_) | ((first | ((with_reducible refine NewK.intro fun g hg hn => ?_) <;> try simp only [own_none_iff] at hn) | ((with_reducible first | refine GuardB.split (fun hc => ?_) (fun hc => ?_) | refine CondK.split (fun hc => ?_) (fun hc => ?_) | refine PickK.split (fun hc => ?_) (fun hc => ?_) | refine GuardD.split (fun hc => ?_) (fun hc => ?_)) <;> (have hc2 := hc; try simp only [beq_eq_false_iff_ne, beq_iff_eq, ne_eq, bne_iff_ne, bne_eq_false_iff_eq, decide_eq_true_eq, decide_eq_false_iff_not, Bool.not_true, Bool.not_false, Int.not_le, Int.not_lt] at hc2)) | (with_reducible first | refine dop_buildSlice ?_ | refine dop_build ?_)) <;> simp -implicitDefEqProofs (maxSteps := 1000000) only [go_sem, seval, *]))
  refine ⟨_, sub_refl, hK.out gA cu _ (subS (subS sub_refl hn) hnA) hnA ?_⟩
  have := r1'.out
  rw [List.nil_append, Nat.zero_add] at this
  exact this
/-- A plan, with what it is made of. -/
theorem Plan_S (F : Fr) (h : Hp) (K : Value → Hp → Prop) (dn : Bool) (s0 s1 c0 c1 : Int) (pw : Option Addr) (nw cw : Nat) (ws : List (Int × Int)) (po : Option Addr) (no co : Nat) (os : List Ord) (hx : RdS (h.cell? F) pw nw 2 (ws.flatMap spC)) (hb : Hold (nw < 9223372036854775808)) (hy : RdS (h.cell? F) po no 4 (os.flatMap oC)) (hb' : Hold (no < 9223372036854775808)) (he : chkV s0 s1 c0 c1 ws os = 0)
    (kA : endV (sgnA dn s0 s1) (sgnB dn s0 s1) (sgnA dn c0 c1) (sgnB dn c0 c1) ws (ordT dn os) = allN os → ∀ g c h', (∀ y o, h.own y = some o → h'.own y = some o) → h.own g = none → Own F h' 51 2 (.slice (some ⟨g, 0, none⟩) (planV dn (sgnA dn s0 s1) (sgnB dn s0 s1) (sgnA dn c0 c1) (sgnB dn c0 c1) ws (ordT dn os)).length c) (planV dn (sgnA dn s0 s1) (sgnB dn s0 s1) (sgnA dn c0 c1) (sgnB dn c0 c1) ws (ordT dn os)).length ((planV dn (sgnA dn s0 s1) (sgnB dn s0 s1) (sgnA dn c0 c1) (sgnB dn c0 c1) ws (ordT dn os)).flatMap spC) → K (.tuple #[.slice (some ⟨g, 0, none⟩) (planV dn (sgnA dn s0 s1) (sgnB dn s0 s1) (sgnA dn c0 c1) (sgnB dn c0 c1) ws (ordT dn os)).length c, .int .i64 0]) h')
    (kB : endV (sgnA dn s0 s1) (sgnB dn s0 s1) (sgnA dn c0 c1) (sgnB dn c0 c1) ws (ordT dn os) ≠ allN os → K (.tuple #[.slice none 0 0, .int .i64 7]) h) :
    DCall Try.prog F 26 #[.agg #[.bool dn, .int .i64 s0, .int .i64 s1, .int .i64 c0, .int .i64 c1, .slice pw nw cw], .slice po no co] h K := by
  have hl1 := hx.count spC_len (by decide)
  have hl2 := hy.count oC_len (by decide)
  have sv0 := chk_shop he
  rw [hl1, hl2] at sv0
  have sv := shop_turn dn sv0
  have ab := allN_bd sv.ords.1
  refine Plan_H F h K dn s0 s1 c0 c1 pw nw cw ws po no co os hx hb hy hb' he (fun e v hN hd o => ?_) kB
  have pos := planV_pos (dn := dn) (by omega) (e.trans (ordT_all dn os).symm)
  obtain ⟨g, c', rfl, rd⟩ := o.some pos
  have hn : h.own g = none := by
    obtain ⟨ob, ho⟩ := o.owned g rfl
    exact (hd g ob ho).1
  refine kA e g c' (joinH h hN) (fun y o e => join_l e) hn (Own.kept o fun b ob e1 e2 => join_r (fun b o e => (hd b o e).1) e2)

end Go.Proofs.Ytlbpfmnobapidaa
