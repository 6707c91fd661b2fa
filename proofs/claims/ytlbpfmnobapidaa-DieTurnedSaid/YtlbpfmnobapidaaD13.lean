/-
  Walks. Conditions: none.
-/
import Derived.Test.YtlbpfmnobapidaaD12
set_option linter.unusedVariables false
set_option linter.unusedSimpArgs false
namespace Go.Proofs.Ytlbpfmnobapidaa
open Go.RowKit Go.SL
set_option maxHeartbeats 1000000
set_option maxRecDepth 1000000
attribute [local go_sem] fl_getD fl_get fl_set lk_def st_def gL_nil gL_zero gL_succ sL_nil_zero sL_nil_succ sL_zero sL_succ Option.getD_none FgK_app onlyL_nil onlyL_none onlyL_some setO_some toB_bool toB_undef yl_def
attribute [local go_sem high] GuardK_yl GuardL_yl
attribute [local go_sem] i64w
attribute [local go_sem] dwp_eqGuardE dwp_eqGuardN rval_eqGuardE rval_eqGuardN
attribute [local go_sem] add_none
theorem steelE_zero {nw : Nat} {st : Int} (h : steelE nw st = 0) : 0 ≤ st ∧ st < nw := by
  unfold steelE at h
  split at h
  · rename_i q
    simp [allI] at q
    omega
  · cases h
theorem ordE_all {nw : Nat} : ∀ {os : List Ord}, ordE nw os = 0 → ∀ o ∈ os, (1 ≤ o.pc ∧ o.pc ≤ 10000) ∧ (0 ≤ o.st ∧ o.st < nw) ∧ 0 ≤ o.z0 ∧ o.z0 ≤ o.z1 ∧ o.z1 ≤ 10000000000
  | [], _, o, ho => by simp at ho
  | x :: r, h, o, ho => by
    rw [ordE] at h
    split at h
    · cases h
    · rename_i q
      simp only [Bool.or_eq_true, Bool.not_eq_true', not_or, Bool.not_eq_false] at q
      split at h
      · rename_i q2
        rcases List.mem_cons.1 ho with rfl | hm
        · have a := q.1
          simp [allI] at a
          exact ⟨by omega, steelE_zero q2, spB_iff.1 q.2⟩
        · exact ordE_all h o hm
      · rename_i q2; exact absurd h q2
theorem toolE_all {s0 s1 c0 c1 : Int} {ws : List (Int × Int)} (h : toolE s0 s1 c0 c1 ws = 0) : AimOk s0 s1 c0 c1 ∧ WearsOk ws.length ws := by
  unfold toolE at h
  split at h
  · cases h
  · rename_i h8
    split at h
    · cases h
    · rename_i q
      simp only [Bool.or_eq_true, Bool.not_eq_true', not_or, Bool.not_eq_false, beq_iff_eq, List.any_eq_true, not_exists, not_and] at q
      obtain ⟨⟨⟨q1, q2⟩, q3⟩, q4⟩ := q
      refine ⟨⟨spB_iff.1 q2, spB_iff.1 q3⟩, ⟨rfl, by omega, by omega⟩, fun w hw => ?_⟩
      exact spB_iff.1 (by simpa using q4 w hw)
theorem chk_shop {s0 s1 c0 c1 : Int} {ws : List (Int × Int)} {os : List Ord} (h : chkV s0 s1 c0 c1 ws os = 0) : ShopB s0 s1 c0 c1 ws.length os.length ws os := by
  unfold chkV at h
  split at h
  · cases h
  · rename_i q
    split at h
    · rename_i ht
      split at h
      · rename_i ho
        split at h
        · cases h
        · rename_i hl
          have oa := ordE_all ho
          have ta := toolE_all ht
          exact ⟨⟨⟨by omega, fun o m => (oa o m).1, fun o m => (oa o m).2.1, fun o m => by have := (oa o m).2.2; omega⟩, rfl⟩, ta.2, ta.1⟩
      · rename_i ho; exact absurd h ho
    · rename_i ht; exact absurd h ht
theorem ordT_mem {dn : Bool} {os : List Ord} {o : Ord} (h : o ∈ ordT dn os) : ∃ x ∈ os, o = x ∨ o = turnO x := by
  unfold ordT at h
  cases dn with
  | false => exact ⟨o, by simpa using h, .inl rfl⟩
  | true =>
    obtain ⟨x, hx, rfl⟩ := List.mem_map.1 (show o ∈ os.map turnO from h)
    exact ⟨x, hx, .inr rfl⟩
theorem shop_turn {s0 s1 c0 c1 : Int} {nw no : Nat} {ws : List (Int × Int)} {os : List Ord} (dn : Bool) (h : ShopB s0 s1 c0 c1 nw no ws os) : ShopB (sgnA dn s0 s1) (sgnB dn s0 s1) (sgnA dn c0 c1) (sgnB dn c0 c1) nw no ws (ordT dn os) := by
  have a := h.aim.s
  have b := h.aim.c
  refine ⟨⟨⟨by rw [ordT_len]; exact h.ords.1.len, fun o m => ?_, fun o m => ?_, fun o m => ?_⟩, by rw [ordT_len]; exact h.ords.2⟩, h.wears, ?_⟩
  · obtain ⟨x, hx, rfl | rfl⟩ := ordT_mem m
    · exact h.ords.1.pc _ hx
    · exact h.ords.1.pc x hx
  · obtain ⟨x, hx, rfl | rfl⟩ := ordT_mem m
    · exact h.ords.1.st _ hx
    · exact h.ords.1.st x hx
  · obtain ⟨x, hx, rfl | rfl⟩ := ordT_mem m
    · exact h.ords.1.z _ hx
    · have := h.ords.1.z x hx
      show -10000000000 ≤ -x.z1 ∧ -x.z1 ≤ -x.z0 ∧ -x.z0 ≤ 10000000000
      omega
  · cases dn with
    | false => exact h.aim
    | true =>
      refine ⟨?_, ?_⟩
      · show -1000000 ≤ -s1 ∧ -s1 ≤ -s0 ∧ -s0 ≤ 1000000
        omega
      · show -1000000 ≤ -c1 ∧ -c1 ≤ -c0 ∧ -c0 ≤ 1000000
        omega
theorem ordT_fN (dn : Bool) (os : List Ord) (i : Nat) : fN (ordT dn os) i = fN os i := by
  unfold ordT
  cases dn with
  | false => rfl
  | true =>
    unfold fN
    rw [if_pos rfl, ← List.map_take, List.map_map]
    rfl
theorem ordT_all (dn : Bool) (os : List Ord) : allN (ordT dn os) = allN os := by
  unfold allN
  rw [ordT_fN, ordT_len]
/-- The two ways of an opening. -/
theorem open_E (F : Fr) (h : Hp) (K : Value → Hp → Prop) (dn : Bool) (s0 s1 c0 c1 : Int) (pw : Option Addr) (nw cw : Nat) (ws : List (Int × Int)) (po : Option Addr) (no co : Nat) (os : List Ord) (hx : RdS (h.cell? F) pw nw 2 (ws.flatMap spC)) (hb : Hold (nw < 9223372036854775808)) (hy : RdS (h.cell? F) po no 4 (os.flatMap oC)) (hb' : Hold (no < 9223372036854775808)) (he : chkV s0 s1 c0 c1 ws os ≠ 0)
    (hK : K (.tuple #[.pointer none, .int .i64 (chkV s0 s1 c0 c1 ws os)]) h) : DCall Try.prog F 63 #[.agg #[.bool dn, .int .i64 s0, .int .i64 s1, .int .i64 c0, .int .i64 c1, .slice pw nw cw], .slice po no co] h K :=
  open_D F h K dn s0 s1 c0 c1 pw nw cw ws po no co os ⟨hx⟩ hb ⟨hy⟩ hb' ⟨fun e => absurd e he⟩ ⟨fun _ => hK⟩ ⟨fun e => absurd e he⟩
theorem open_K (F : Fr) (h : Hp) (K : Value → Hp → Prop) (dn : Bool) (s0 s1 c0 c1 : Int) (pw : Option Addr) (nw cw : Nat) (ws : List (Int × Int)) (po : Option Addr) (no co : Nat) (os : List Ord) (hx : RdS (h.cell? F) pw nw 2 (ws.flatMap spC)) (hb : Hold (nw < 9223372036854775808)) (hy : RdS (h.cell? F) po no 4 (os.flatMap oC)) (hb' : Hold (no < 9223372036854775808)) (he : chkV s0 s1 c0 c1 ws os = 0)
    (hK : ∀ gs po' co' pf cf h', (∀ y o, h.own y = some o → h'.own y = some o) → Hold (ShopR (h'.cell? F) gs (sgnA dn s0 s1) (sgnB dn s0 s1) (sgnA dn c0 c1) (sgnB dn c0 c1) pw nw cw po' no co' pf cf dn ws (ordT dn os)) → F.w0.heap.size ≤ gs → h.own gs = none → K (.tuple #[.pointer (some ⟨gs, 0, none⟩), .int .i64 0]) h') :
    DCall Try.prog F 63 #[.agg #[.bool dn, .int .i64 s0, .int .i64 s1, .int .i64 c0, .int .i64 c1, .slice pw nw cw], .slice po no co] h K := by
  have hl1 := hx.count spC_len (by decide)
  have hl2 := hy.count oC_len (by decide)
  exact open_D F h K dn s0 s1 c0 c1 pw nw cw ws po no co os ⟨hx⟩ hb ⟨hy⟩ hb' ⟨fun e => by have := chk_shop e; rw [hl1, hl2] at this; exact this⟩ ⟨fun e => absurd he e⟩ ⟨fun _ gs po' co' pf cf h' f1 f2 f3 f4 => hK gs po' co' pf cf h' f1 ⟨f2⟩ f3 f4⟩
set_option maxHeartbeats 4000000 in
theorem Wear_E (ro : Addr → Option Value) (dn : Bool) (s0 s1 c0 c1 : Int) (pw : Option Addr) (nw cw : Nat) (ws : List (Int × Int)) (po : Option Addr) (no co : Nat) (os : List Ord) (fr to : Int) (hx : RdS ro pw nw 2 (ws.flatMap spC)) (hb : Hold (nw < 9223372036854775808)) (hy : RdS ro po no 4 (os.flatMap oC)) (hb' : Hold (no < 9223372036854775808)) (he : chkV s0 s1 c0 c1 ws os ≠ 0) :
    Cr Try.prog 18 #[.agg #[.bool dn, .int .i64 s0, .int .i64 s1, .int .i64 c0, .int .i64 c1, .slice pw nw cw], .slice po no co, .int .i64 fr, .int .i64 to] ro (.tuple #[.agg #[.int .i64 0, .int .i64 0], .int .i64 (chkV s0 s1 c0 c1 ws os)]) := by
  refine Cr.ofD fun F hF hT => ?_
  subst hF
  replace hx := Hold.mk hx
  replace hy := Hold.mk hy
  have hop : Hold (∀ (h : Hp) (K : Value → Hp → Prop), K (.tuple #[.pointer none, .int .i64 (chkV s0 s1 c0 c1 ws os)]) h → DCall Try.prog F 63 #[.agg #[.bool dn, .int .i64 s0, .int .i64 s1, .int .i64 c0, .int .i64 c1, .slice pw nw cw], .slice po no co] h K) := ⟨fun h K hK => open_E F h K dn s0 s1 c0 c1 pw nw cw ws po no co os (hx.out.mono fun a u e => Hp.cell_ro e) hb (hy.out.mono fun a u e => Hp.cell_ro e) hb' he hK⟩
  have q1 : (chkV s0 s1 c0 c1 ws os != 0) = true := by simpa using he
  generalize chkV s0 s1 c0 c1 ws os = e at *
  clear hx hy he
  (refine DCall.inlP (l := _) Try.func18 Try.ntmps18 rfl rfl (by simp only [seval, List.length_cons, List.length_nil]) (by simp only [seval, List.length_cons, List.length_nil]) ?_; simp only [Try.results18, List.map_cons, List.map_nil])
  repeat' (first | (with_reducible refine at_seq (by with_unfolding_all exact rfl) ?_) | ((with_reducible first | refine at_plain (by with_unfolding_all exact rfl) ?_ | refine at_cond (by with_unfolding_all exact rfl) ?_ | refine at_exit (by with_unfolding_all exact rfl) ?_ | refine at_ret (by with_unfolding_all exact rfl) ?_ | refine at_skip (by with_unfolding_all exact rfl) ?_ | refine at_label (by with_unfolding_all exact rfl) ?_) <;> try simp -implicitDefEqProofs (maxSteps := 1000000) only [go_sem, seval, *]) | (with_reducible first | refine at_block (by with_unfolding_all exact rfl) ?_ | refine at_loop (by with_unfolding_all exact rfl) ?_) | ((first | ((with_reducible refine NewK.intro fun g hg hn => ?_) <;> try simp only [own_none_iff] at hn) | ((with_reducible first | refine GuardB.split (fun hc => ?_) (fun hc => ?_) | refine CondK.split (fun hc => ?_) (fun hc => ?_) | refine PickK.split (fun hc => ?_) (fun hc => ?_) | refine GuardD.split (fun hc => ?_) (fun hc => ?_)) <;> (have hc2 := hc; try simp only [beq_eq_false_iff_ne, beq_iff_eq, ne_eq, bne_iff_ne, bne_eq_false_iff_eq, decide_eq_true_eq, decide_eq_false_iff_not, Bool.not_true, Bool.not_false, Int.not_le, Int.not_lt] at hc2)) | (with_reducible first | refine dop_buildSlice ?_ | refine dop_build ?_)) <;> simp -implicitDefEqProofs (maxSteps := 1000000) only [go_sem, seval, *]))
  refine hop.out _ _ ?_
  clear hop
  simp -implicitDefEqProofs (maxSteps := 1000000) only [go_sem, seval, *]
  repeat' (first | (with_reducible refine at_seq (by with_unfolding_all exact rfl) ?_) | ((with_reducible first | refine at_plain (by with_unfolding_all exact rfl) ?_ | refine at_cond (by with_unfolding_all exact rfl) ?_ | refine at_exit (by with_unfolding_all exact rfl) ?_ | refine at_ret (by with_unfolding_all exact rfl) ?_ | refine at_skip (by with_unfolding_all exact rfl) ?_ | refine at_label (by with_unfolding_all exact rfl) ?_) <;> try simp -implicitDefEqProofs (maxSteps := 1000000) only [go_sem, seval, *]) | (with_reducible first | refine at_block (by with_unfolding_all exact rfl) ?_ | refine at_loop (by with_unfolding_all exact rfl) ?_) | ((first | ((with_reducible refine NewK.intro fun g hg hn => ?_) <;> try simp only [own_none_iff] at hn) | ((with_reducible first | refine GuardB.split (fun hc => ?_) (fun hc => ?_) | refine CondK.split (fun hc => ?_) (fun hc => ?_) | refine PickK.split (fun hc => ?_) (fun hc => ?_) | refine GuardD.split (fun hc => ?_) (fun hc => ?_)) <;> (have hc2 := hc; try simp only [beq_eq_false_iff_ne, beq_iff_eq, ne_eq, bne_iff_ne, bne_eq_false_iff_eq, decide_eq_true_eq, decide_eq_false_iff_not, Bool.not_true, Bool.not_false, Int.not_le, Int.not_lt] at hc2)) | (with_reducible first | refine dop_buildSlice ?_ | refine dop_build ?_)) <;> simp -implicitDefEqProofs (maxSteps := 1000000) only [go_sem, seval, *]))
set_option maxHeartbeats 4000000 in
theorem Targets_E (ro : Addr → Option Value) (dn : Bool) (s0 s1 c0 c1 : Int) (pw : Option Addr) (nw cw : Nat) (ws : List (Int × Int)) (po : Option Addr) (no co : Nat) (os : List Ord) (fr to : Int) (hx : RdS ro pw nw 2 (ws.flatMap spC)) (hb : Hold (nw < 9223372036854775808)) (hy : RdS ro po no 4 (os.flatMap oC)) (hb' : Hold (no < 9223372036854775808)) (he : chkV s0 s1 c0 c1 ws os ≠ 0) :
    Cr Try.prog 19 #[.agg #[.bool dn, .int .i64 s0, .int .i64 s1, .int .i64 c0, .int .i64 c1, .slice pw nw cw], .slice po no co, .int .i64 fr, .int .i64 to] ro (.tuple #[.agg #[.int .i64 0, .int .i64 0], .int .i64 (chkV s0 s1 c0 c1 ws os)]) := by
  refine Cr.ofD fun F hF hT => ?_
  subst hF
  replace hx := Hold.mk hx
  replace hy := Hold.mk hy
  have hop : Hold (∀ (h : Hp) (K : Value → Hp → Prop), K (.tuple #[.pointer none, .int .i64 (chkV s0 s1 c0 c1 ws os)]) h → DCall Try.prog F 63 #[.agg #[.bool dn, .int .i64 s0, .int .i64 s1, .int .i64 c0, .int .i64 c1, .slice pw nw cw], .slice po no co] h K) := ⟨fun h K hK => open_E F h K dn s0 s1 c0 c1 pw nw cw ws po no co os (hx.out.mono fun a u e => Hp.cell_ro e) hb (hy.out.mono fun a u e => Hp.cell_ro e) hb' he hK⟩
  have q1 : (chkV s0 s1 c0 c1 ws os != 0) = true := by simpa using he
  generalize chkV s0 s1 c0 c1 ws os = e at *
  clear hx hy he
  (refine DCall.inlP (l := _) Try.func19 Try.ntmps19 rfl rfl (by simp only [seval, List.length_cons, List.length_nil]) (by simp only [seval, List.length_cons, List.length_nil]) ?_; simp only [Try.results19, List.map_cons, List.map_nil])
  repeat' (first | (with_reducible refine at_seq (by with_unfolding_all exact rfl) ?_) | ((with_reducible first | refine at_plain (by with_unfolding_all exact rfl) ?_ | refine at_cond (by with_unfolding_all exact rfl) ?_ | refine at_exit (by with_unfolding_all exact rfl) ?_ | refine at_ret (by with_unfolding_all exact rfl) ?_ | refine at_skip (by with_unfolding_all exact rfl) ?_ | refine at_label (by with_unfolding_all exact rfl) ?_) <;> try simp -implicitDefEqProofs (maxSteps := 1000000) only [go_sem, seval, *]) | (with_reducible first | refine at_block (by with_unfolding_all exact rfl) ?_ | refine at_loop (by with_unfolding_all exact rfl) ?_) | ((first | ((with_reducible refine NewK.intro fun g hg hn => ?_) <;> try simp only [own_none_iff] at hn) | ((with_reducible first | refine GuardB.split (fun hc => ?_) (fun hc => ?_) | refine CondK.split (fun hc => ?_) (fun hc => ?_) | refine PickK.split (fun hc => ?_) (fun hc => ?_) | refine GuardD.split (fun hc => ?_) (fun hc => ?_)) <;> (have hc2 := hc; try simp only [beq_eq_false_iff_ne, beq_iff_eq, ne_eq, bne_iff_ne, bne_eq_false_iff_eq, decide_eq_true_eq, decide_eq_false_iff_not, Bool.not_true, Bool.not_false, Int.not_le, Int.not_lt] at hc2)) | (with_reducible first | refine dop_buildSlice ?_ | refine dop_build ?_)) <;> simp -implicitDefEqProofs (maxSteps := 1000000) only [go_sem, seval, *]))
  refine hop.out _ _ ?_
  clear hop
  simp -implicitDefEqProofs (maxSteps := 1000000) only [go_sem, seval, *]
  repeat' (first | (with_reducible refine at_seq (by with_unfolding_all exact rfl) ?_) | ((with_reducible first | refine at_plain (by with_unfolding_all exact rfl) ?_ | refine at_cond (by with_unfolding_all exact rfl) ?_ | refine at_exit (by with_unfolding_all exact rfl) ?_ | refine at_ret (by with_unfolding_all exact rfl) ?_ | refine at_skip (by with_unfolding_all exact rfl) ?_ | refine at_label (by with_unfolding_all exact rfl) ?_) <;> try simp -implicitDefEqProofs (maxSteps := 1000000) only [go_sem, seval, *]) | (with_reducible first | refine at_block (by with_unfolding_all exact rfl) ?_ | refine at_loop (by with_unfolding_all exact rfl) ?_) | ((first | ((with_reducible refine NewK.intro fun g hg hn => ?_) <;> try simp only [own_none_iff] at hn) | ((with_reducible first | refine GuardB.split (fun hc => ?_) (fun hc => ?_) | refine CondK.split (fun hc => ?_) (fun hc => ?_) | refine PickK.split (fun hc => ?_) (fun hc => ?_) | refine GuardD.split (fun hc => ?_) (fun hc => ?_)) <;> (have hc2 := hc; try simp only [beq_eq_false_iff_ne, beq_iff_eq, ne_eq, bne_iff_ne, bne_eq_false_iff_eq, decide_eq_true_eq, decide_eq_false_iff_not, Bool.not_true, Bool.not_false, Int.not_le, Int.not_lt] at hc2)) | (with_reducible first | refine dop_buildSlice ?_ | refine dop_build ?_)) <;> simp -implicitDefEqProofs (maxSteps := 1000000) only [go_sem, seval, *]))
set_option maxHeartbeats 4000000 in
theorem Reach_E (ro : Addr → Option Value) (dn : Bool) (s0 s1 c0 c1 : Int) (pw : Option Addr) (nw cw : Nat) (ws : List (Int × Int)) (po : Option Addr) (no co : Nat) (os : List Ord) (fr : Int) (hx : RdS ro pw nw 2 (ws.flatMap spC)) (hb : Hold (nw < 9223372036854775808)) (hy : RdS ro po no 4 (os.flatMap oC)) (hb' : Hold (no < 9223372036854775808)) (he : chkV s0 s1 c0 c1 ws os ≠ 0) :
    Cr Try.prog 25 #[.agg #[.bool dn, .int .i64 s0, .int .i64 s1, .int .i64 c0, .int .i64 c1, .slice pw nw cw], .slice po no co, .int .i64 fr] ro (.tuple #[.int .i64 0, .int .i64 (chkV s0 s1 c0 c1 ws os)]) := by
  refine Cr.ofD fun F hF hT => ?_
  subst hF
  replace hx := Hold.mk hx
  replace hy := Hold.mk hy
  have hop : Hold (∀ (h : Hp) (K : Value → Hp → Prop), K (.tuple #[.pointer none, .int .i64 (chkV s0 s1 c0 c1 ws os)]) h → DCall Try.prog F 63 #[.agg #[.bool dn, .int .i64 s0, .int .i64 s1, .int .i64 c0, .int .i64 c1, .slice pw nw cw], .slice po no co] h K) := ⟨fun h K hK => open_E F h K dn s0 s1 c0 c1 pw nw cw ws po no co os (hx.out.mono fun a u e => Hp.cell_ro e) hb (hy.out.mono fun a u e => Hp.cell_ro e) hb' he hK⟩
  have q1 : (chkV s0 s1 c0 c1 ws os != 0) = true := by simpa using he
  generalize chkV s0 s1 c0 c1 ws os = e at *
  clear hx hy he
  (refine DCall.inlP (l := _) Try.func25 Try.ntmps25 rfl rfl (by simp only [seval, List.length_cons, List.length_nil]) (by simp only [seval, List.length_cons, List.length_nil]) ?_; simp only [Try.results25, List.map_cons, List.map_nil])
  repeat' (first | (with_reducible refine at_seq (by with_unfolding_all exact rfl) ?_) | ((with_reducible first | refine at_plain (by with_unfolding_all exact rfl) ?_ | refine at_cond (by with_unfolding_all exact rfl) ?_ | refine at_exit (by with_unfolding_all exact rfl) ?_ | refine at_ret (by with_unfolding_all exact rfl) ?_ | refine at_skip (by with_unfolding_all exact rfl) ?_ | refine at_label (by with_unfolding_all exact rfl) ?_) <;> try simp -implicitDefEqProofs (maxSteps := 1000000) only [go_sem, seval, *]) | (with_reducible first | refine at_block (by with_unfolding_all exact rfl) ?_ | refine at_loop (by with_unfolding_all exact rfl) ?_) | ((first | ((with_reducible refine NewK.intro fun g hg hn => ?_) <;> try simp only [own_none_iff] at hn) | ((with_reducible first | refine GuardB.split (fun hc => ?_) (fun hc => ?_) | refine CondK.split (fun hc => ?_) (fun hc => ?_) | refine PickK.split (fun hc => ?_) (fun hc => ?_) | refine GuardD.split (fun hc => ?_) (fun hc => ?_)) <;> (have hc2 := hc; try simp only [beq_eq_false_iff_ne, beq_iff_eq, ne_eq, bne_iff_ne, bne_eq_false_iff_eq, decide_eq_true_eq, decide_eq_false_iff_not, Bool.not_true, Bool.not_false, Int.not_le, Int.not_lt] at hc2)) | (with_reducible first | refine dop_buildSlice ?_ | refine dop_build ?_)) <;> simp -implicitDefEqProofs (maxSteps := 1000000) only [go_sem, seval, *]))
  refine hop.out _ _ ?_
  clear hop
  simp -implicitDefEqProofs (maxSteps := 1000000) only [go_sem, seval, *]
  repeat' (first | (with_reducible refine at_seq (by with_unfolding_all exact rfl) ?_) | ((with_reducible first | refine at_plain (by with_unfolding_all exact rfl) ?_ | refine at_cond (by with_unfolding_all exact rfl) ?_ | refine at_exit (by with_unfolding_all exact rfl) ?_ | refine at_ret (by with_unfolding_all exact rfl) ?_ | refine at_skip (by with_unfolding_all exact rfl) ?_ | refine at_label (by with_unfolding_all exact rfl) ?_) <;> try simp -implicitDefEqProofs (maxSteps := 1000000) only [go_sem, seval, *]) | (with_reducible first | refine at_block (by with_unfolding_all exact rfl) ?_ | refine at_loop (by with_unfolding_all exact rfl) ?_) | ((first | ((with_reducible refine NewK.intro fun g hg hn => ?_) <;> try simp only [own_none_iff] at hn) | ((with_reducible first | refine GuardB.split (fun hc => ?_) (fun hc => ?_) | refine CondK.split (fun hc => ?_) (fun hc => ?_) | refine PickK.split (fun hc => ?_) (fun hc => ?_) | refine GuardD.split (fun hc => ?_) (fun hc => ?_)) <;> (have hc2 := hc; try simp only [beq_eq_false_iff_ne, beq_iff_eq, ne_eq, bne_iff_ne, bne_eq_false_iff_eq, decide_eq_true_eq, decide_eq_false_iff_not, Bool.not_true, Bool.not_false, Int.not_le, Int.not_lt] at hc2)) | (with_reducible first | refine dop_buildSlice ?_ | refine dop_build ?_)) <;> simp -implicitDefEqProofs (maxSteps := 1000000) only [go_sem, seval, *]))
theorem wP_bd {nw : Nat} {os : List Ord} {ws : List (Int × Int)} (hO : OrdsOk nw os) (hW : WearsOk nw ws) : ∀ p : Nat, 0 ≤ (wP ws os p).1 ∧ (wP ws os p).1 ≤ (wP ws os p).2 ∧ (wP ws os p).2 ≤ 100000 * p
  | 0 => ⟨Int.le_refl _, Int.le_refl _, Int.le_refl _⟩
  | p + 1 => by
    have ih := wP_bd hO hW p
    have b := wrAt_bd hW (ordP_st hO hW p)
    rw [wP_succ1, wP_succ2]
    push_cast
    omega
theorem tgF_bd {nw no : Nat} {s0 s1 c0 c1 : Int} {os : List Ord} {ws : List (Int × Int)} (hV : ShopB s0 s1 c0 c1 nw no ws os) {fr to : Nat} (hf : fr < to) (ht : to ≤ allN os) :
    (-100000000000 ≤ (tgF s0 s1 c0 c1 ws os fr to).1 ∧ (tgF s0 s1 c0 c1 ws os fr to).1 ≤ 100000000000) ∧ -100000000000 ≤ (tgF s0 s1 c0 c1 ws os fr to).2 ∧ (tgF s0 s1 c0 c1 ws os fr to).2 ≤ 100000000000 := by
  have ab := allN_bd hV.ords.1
  have i1 := fun x => tgF_iff (s0 := s0) (s1 := s1) (c0 := c0) (c1 := c1) hV.ords.1 hV.wears hf ht x
  have pb : ∀ p, fr ≤ p → p < to → (-100000000000 ≤ lowP s0 c0 ws os fr p ∧ lowP s0 c0 ws os fr p ≤ 100000000000) ∧ -100000000000 ≤ highP s1 c1 ws os fr p ∧ highP s1 c1 ws os fr p ≤ 100000000000 := fun p h1 h2 => by
    have z := hV.ords.1.z _ (ordP_mem (p := p) (os := os) (by unfold allN at ht; omega))
    have b1 := wP_bd hV.ords.1 hV.wears p
    have b2 := wP_bd hV.ords.1 hV.wears fr
    have a1 := hV.aim.s
    have a2 := hV.aim.c
    unfold lowP highP
    omega
  have p0 := pb fr (Nat.le_refl _) hf
  have l1 := ((i1 (tgF s0 s1 c0 c1 ws os fr to).1).1.1 (Int.le_refl _)) fr (Nat.le_refl _) hf
  have l2 := (i1 100000000000).1.2 fun p h1 h2 => (pb p h1 h2).1.2
  have h1 := ((i1 (tgF s0 s1 c0 c1 ws os fr to).2).2.1 (Int.le_refl _)) fr (Nat.le_refl _) hf
  have h2 := (i1 (-100000000000)).2.2 fun p h1 h2 => (pb p h1 h2).2.1
  omega
theorem ordT_at (dn : Bool) (os : List Ord) (p : Nat) : ordP (ordT dn os) p = (if dn then (if p < allN os then turnO (ordP os p) else default) else ordP os p) := by
  unfold ordT
  cases dn with
  | false => rfl
  | true =>
    simp only [if_true]
    unfold allN
    induction os generalizing p with
    | nil => simp [fN, ordP]
    | cons o r ih =>
      rw [List.map_cons, ordP, ordP, List.length_cons, fN_cons]
      show (if p < o.pc.toNat then turnO o else ordP (r.map turnO) (p - o.pc.toNat)) = _
      split
      · rename_i h; rw [if_pos (by omega)]
      · rename_i h
        rw [ih]
        by_cases h2 : p - o.pc.toNat < fN r r.length
        · rw [if_pos h2, if_pos (by omega)]
        · rw [if_neg h2, if_neg (by omega)]
theorem ordT_st (dn : Bool) (os : List Ord) (p : Nat) : (ordP (ordT dn os) p).st = (ordP os p).st := by
  rw [ordT_at]
  cases dn with
  | false => rfl
  | true =>
    simp only [if_true]
    split
    · rfl
    · rename_i h; rw [ordP_out (by unfold allN at h; omega)]
theorem wP_ordT (dn : Bool) (ws : List (Int × Int)) (os : List Ord) : ∀ p, wP ws (ordT dn os) p = wP ws os p
  | 0 => rfl
  | p + 1 => by
    have ih := wP_ordT dn ws os p
    show ((wP ws (ordT dn os) p).1 + (wrAt ws (ordP (ordT dn os) p).st).1, (wP ws (ordT dn os) p).2 + (wrAt ws (ordP (ordT dn os) p).st).2) = _
    rw [ih, ordT_st]
    rfl
theorem sub_one {h h' : Hp} {g : Nat} {ob : Obj} (hs : ∀ y o, h.own y = some o → h'.own y = some o) : ∀ y o, h.own y = some o → h'.own y = some o := hs
set_option maxHeartbeats 4000000 in
theorem Wear_R (ro : Addr → Option Value) (dn : Bool) (s0 s1 c0 c1 : Int) (pw : Option Addr) (nw cw : Nat) (ws : List (Int × Int)) (po : Option Addr) (no co : Nat) (os : List Ord) (fr to : Int) (hx : RdS ro pw nw 2 (ws.flatMap spC)) (hb : Hold (nw < 9223372036854775808)) (hy : RdS ro po no 4 (os.flatMap oC)) (hb' : Hold (no < 9223372036854775808)) (he : chkV s0 s1 c0 c1 ws os = 0) (hr : ¬ (0 ≤ fr ∧ fr ≤ to ∧ to ≤ (allN os : Int))) :
    Cr Try.prog 18 #[.agg #[.bool dn, .int .i64 s0, .int .i64 s1, .int .i64 c0, .int .i64 c1, .slice pw nw cw], .slice po no co, .int .i64 fr, .int .i64 to] ro (.tuple #[.agg #[.int .i64 0, .int .i64 0], .int .i64 3]) := by
  have hl1 := hx.count spC_len (by decide)
  have hl2 := hy.count oC_len (by decide)
  have sv0 := chk_shop he
  rw [hl1, hl2] at sv0
  have ab := allN_bd sv0.ords.1
  have sv := Hold.mk (shop_turn dn sv0)
  refine Cr.ofD fun F hF hT => ?_
  subst hF
  have hop : Hold (∀ (h : Hp) (K : Value → Hp → Prop), (∀ gs po' co' pf cf h', (∀ y o, h.own y = some o → h'.own y = some o) → Hold (ShopR (h'.cell? F) gs (sgnA dn s0 s1) (sgnB dn s0 s1) (sgnA dn c0 c1) (sgnB dn c0 c1) pw nw cw po' no co' pf cf dn ws (ordT dn os)) → F.w0.heap.size ≤ gs → h.own gs = none → K (.tuple #[.pointer (some ⟨gs, 0, none⟩), .int .i64 0]) h') → DCall Try.prog F 63 #[.agg #[.bool dn, .int .i64 s0, .int .i64 s1, .int .i64 c0, .int .i64 c1, .slice pw nw cw], .slice po no co] h K) := ⟨fun h K hK => open_K F h K dn s0 s1 c0 c1 pw nw cw ws po no co os (hx.mono fun a u e => Hp.cell_ro e) hb (hy.mono fun a u e => Hp.cell_ro e) hb' he hK⟩
  have ha : Hold (∀ ro gs po' co' pf cf, ShopR ro gs (sgnA dn s0 s1) (sgnB dn s0 s1) (sgnA dn c0 c1) (sgnB dn c0 c1) pw nw cw po' no co' pf cf dn ws (ordT dn os) → Cr Try.prog 64 #[.pointer (some ⟨gs, 0, none⟩)] ro (.int .i64 (allN os))) := ⟨fun ro gs po' co' pf cf h => by rw [← ordT_all dn os]; exact allN_ok ro gs _ _ _ _ pw nw cw po' no co' pf cf dn ws (ordT dn os) h sv⟩
  clear hl1 hl2 sv0 hx hy he
  obtain ⟨b, hb0⟩ : ∃ b, (decide (0 ≤ fr) && (decide (fr ≤ (allN os : Int)) && (decide (0 ≤ to) && decide (to ≤ (allN os : Int))))) = b := ⟨_, rfl⟩
  have hb1 := hb0
  have cB : b = true → (fr > to) = True := fun e => by
    rw [e] at hb0
    simp only [Bool.and_eq_true, decide_eq_true_eq] at hb0
    simp only [eq_iff_iff, iff_true]
    omega
  clear hb0 hr sv ab
  generalize allN os = a at *
  cases b with
  | false =>
    clear cB
    (refine DCall.inlP (l := _) Try.func18 Try.ntmps18 rfl rfl (by simp only [seval, List.length_cons, List.length_nil]) (by simp only [seval, List.length_cons, List.length_nil]) ?_; simp only [Try.results18, List.map_cons, List.map_nil])
    repeat' (first | (with_reducible refine at_seq (by with_unfolding_all exact rfl) ?_) | ((with_reducible first | refine at_plain (by with_unfolding_all exact rfl) ?_ | refine at_cond (by with_unfolding_all exact rfl) ?_ | refine at_exit (by with_unfolding_all exact rfl) ?_ | refine at_ret (by with_unfolding_all exact rfl) ?_ | refine at_skip (by with_unfolding_all exact rfl) ?_ | refine at_label (by with_unfolding_all exact rfl) ?_) <;> try simp -implicitDefEqProofs (maxSteps := 1000000) only [go_sem, seval, *]) | (with_reducible first | refine at_block (by with_unfolding_all exact rfl) ?_ | refine at_loop (by with_unfolding_all exact rfl) ?_) | ((first | ((with_reducible refine NewK.intro fun g hg hn => ?_) <;> try simp only [own_none_iff] at hn) | ((with_reducible first | refine GuardB.split (fun hc => ?_) (fun hc => ?_) | refine CondK.split (fun hc => ?_) (fun hc => ?_) | refine PickK.split (fun hc => ?_) (fun hc => ?_) | refine GuardD.split (fun hc => ?_) (fun hc => ?_)) <;> (have hc2 := hc; try simp only [beq_eq_false_iff_ne, beq_iff_eq, ne_eq, bne_iff_ne, bne_eq_false_iff_eq, decide_eq_true_eq, decide_eq_false_iff_not, Bool.not_true, Bool.not_false, Int.not_le, Int.not_lt] at hc2)) | (with_reducible first | refine dop_buildSlice ?_ | refine dop_build ?_)) <;> simp -implicitDefEqProofs (maxSteps := 1000000) only [go_sem, seval, *]))
    refine hop.out _ _ fun gs po' co' pf cf h' f1 hS f3 f4 => ?_
    have u8 := f1 g _ (by simp -implicitDefEqProofs (maxSteps := 1000000) only [go_sem, seval, *]; rfl)
    have v8 := own_ne u8
    clear f1 hop
    simp -implicitDefEqProofs (maxSteps := 1000000) only [go_sem, seval, *]
    repeat' (first | (with_reducible refine at_seq (by with_unfolding_all exact rfl) ?_) | ((with_reducible first | refine at_plain (by with_unfolding_all exact rfl) ?_ | refine at_cond (by with_unfolding_all exact rfl) ?_ | refine at_exit (by with_unfolding_all exact rfl) ?_ | refine at_ret (by with_unfolding_all exact rfl) ?_ | refine at_skip (by with_unfolding_all exact rfl) ?_ | refine at_label (by with_unfolding_all exact rfl) ?_) <;> try simp -implicitDefEqProofs (maxSteps := 1000000) only [go_sem, seval, *]) | (with_reducible first | refine at_block (by with_unfolding_all exact rfl) ?_ | refine at_loop (by with_unfolding_all exact rfl) ?_) | ((first | ((with_reducible refine NewK.intro fun g hg hn => ?_) <;> try simp only [own_none_iff] at hn) | ((with_reducible first | refine GuardB.split (fun hc => ?_) (fun hc => ?_) | refine CondK.split (fun hc => ?_) (fun hc => ?_) | refine PickK.split (fun hc => ?_) (fun hc => ?_) | refine GuardD.split (fun hc => ?_) (fun hc => ?_)) <;> (have hc2 := hc; try simp only [beq_eq_false_iff_ne, beq_iff_eq, ne_eq, bne_iff_ne, bne_eq_false_iff_eq, decide_eq_true_eq, decide_eq_false_iff_not, Bool.not_true, Bool.not_false, Int.not_le, Int.not_lt] at hc2)) | (with_reducible first | refine dop_buildSlice ?_ | refine dop_build ?_) | ((with_reducible refine Cr.call (f := 64) (ha.out _ _ _ _ _ _ hS.out) ?_)) | (with_reducible refine CallV.of (f := 64) (ha.out _ _ _ _ _ _ hS.out) ni64 ?_) | ((with_reducible refine Cr.call (f := 60) (withinB_ok _ _ _ _ _ _ _ (by simp -implicitDefEqProofs (maxSteps := 1000000) only [go_sem, seval, *]) ⟨by decide⟩) ?_)) | (with_reducible refine CallV.of (f := 60) (withinB_ok _ _ _ _ _ _ _ (by simp -implicitDefEqProofs (maxSteps := 1000000) only [go_sem, seval, *]) ⟨by decide⟩) ni60 ?_)) <;> simp -implicitDefEqProofs (maxSteps := 1000000) only [go_sem, seval, *]))
  | true =>
    have c2 := cB rfl
    clear cB
    (refine DCall.inlP (l := _) Try.func18 Try.ntmps18 rfl rfl (by simp only [seval, List.length_cons, List.length_nil]) (by simp only [seval, List.length_cons, List.length_nil]) ?_; simp only [Try.results18, List.map_cons, List.map_nil])
    repeat' (first | (with_reducible refine at_seq (by with_unfolding_all exact rfl) ?_) | ((with_reducible first | refine at_plain (by with_unfolding_all exact rfl) ?_ | refine at_cond (by with_unfolding_all exact rfl) ?_ | refine at_exit (by with_unfolding_all exact rfl) ?_ | refine at_ret (by with_unfolding_all exact rfl) ?_ | refine at_skip (by with_unfolding_all exact rfl) ?_ | refine at_label (by with_unfolding_all exact rfl) ?_) <;> try simp -implicitDefEqProofs (maxSteps := 1000000) only [go_sem, seval, *]) | (with_reducible first | refine at_block (by with_unfolding_all exact rfl) ?_ | refine at_loop (by with_unfolding_all exact rfl) ?_) | ((first | ((with_reducible refine NewK.intro fun g hg hn => ?_) <;> try simp only [own_none_iff] at hn) | ((with_reducible first | refine GuardB.split (fun hc => ?_) (fun hc => ?_) | refine CondK.split (fun hc => ?_) (fun hc => ?_) | refine PickK.split (fun hc => ?_) (fun hc => ?_) | refine GuardD.split (fun hc => ?_) (fun hc => ?_)) <;> (have hc2 := hc; try simp only [beq_eq_false_iff_ne, beq_iff_eq, ne_eq, bne_iff_ne, bne_eq_false_iff_eq, decide_eq_true_eq, decide_eq_false_iff_not, Bool.not_true, Bool.not_false, Int.not_le, Int.not_lt] at hc2)) | (with_reducible first | refine dop_buildSlice ?_ | refine dop_build ?_)) <;> simp -implicitDefEqProofs (maxSteps := 1000000) only [go_sem, seval, *]))
    refine hop.out _ _ fun gs po' co' pf cf h' f1 hS f3 f4 => ?_
    have u8 := f1 g _ (by simp -implicitDefEqProofs (maxSteps := 1000000) only [go_sem, seval, *]; rfl)
    have v8 := own_ne u8
    clear f1 hop
    simp -implicitDefEqProofs (maxSteps := 1000000) only [go_sem, seval, *]
    repeat' (first | (with_reducible refine at_seq (by with_unfolding_all exact rfl) ?_) | ((with_reducible first | refine at_plain (by with_unfolding_all exact rfl) ?_ | refine at_cond (by with_unfolding_all exact rfl) ?_ | refine at_exit (by with_unfolding_all exact rfl) ?_ | refine at_ret (by with_unfolding_all exact rfl) ?_ | refine at_skip (by with_unfolding_all exact rfl) ?_ | refine at_label (by with_unfolding_all exact rfl) ?_) <;> try simp -implicitDefEqProofs (maxSteps := 1000000) only [go_sem, seval, *]) | (with_reducible first | refine at_block (by with_unfolding_all exact rfl) ?_ | refine at_loop (by with_unfolding_all exact rfl) ?_) | ((first | ((with_reducible refine NewK.intro fun g hg hn => ?_) <;> try simp only [own_none_iff] at hn) | ((with_reducible first | refine GuardB.split (fun hc => ?_) (fun hc => ?_) | refine CondK.split (fun hc => ?_) (fun hc => ?_) | refine PickK.split (fun hc => ?_) (fun hc => ?_) | refine GuardD.split (fun hc => ?_) (fun hc => ?_)) <;> (have hc2 := hc; try simp only [beq_eq_false_iff_ne, beq_iff_eq, ne_eq, bne_iff_ne, bne_eq_false_iff_eq, decide_eq_true_eq, decide_eq_false_iff_not, Bool.not_true, Bool.not_false, Int.not_le, Int.not_lt] at hc2)) | (with_reducible first | refine dop_buildSlice ?_ | refine dop_build ?_) | ((with_reducible refine Cr.call (f := 64) (ha.out _ _ _ _ _ _ hS.out) ?_)) | (with_reducible refine CallV.of (f := 64) (ha.out _ _ _ _ _ _ hS.out) ni64 ?_) | ((with_reducible refine Cr.call (f := 60) (withinB_ok _ _ _ _ _ _ _ (by simp -implicitDefEqProofs (maxSteps := 1000000) only [go_sem, seval, *]) ⟨by decide⟩) ?_)) | (with_reducible refine CallV.of (f := 60) (withinB_ok _ _ _ _ _ _ _ (by simp -implicitDefEqProofs (maxSteps := 1000000) only [go_sem, seval, *]) ⟨by decide⟩) ni60 ?_)) <;> simp -implicitDefEqProofs (maxSteps := 1000000) only [go_sem, seval, *]))
set_option maxHeartbeats 4000000 in
theorem Targets_R (ro : Addr → Option Value) (dn : Bool) (s0 s1 c0 c1 : Int) (pw : Option Addr) (nw cw : Nat) (ws : List (Int × Int)) (po : Option Addr) (no co : Nat) (os : List Ord) (fr to : Int) (hx : RdS ro pw nw 2 (ws.flatMap spC)) (hb : Hold (nw < 9223372036854775808)) (hy : RdS ro po no 4 (os.flatMap oC)) (hb' : Hold (no < 9223372036854775808)) (he : chkV s0 s1 c0 c1 ws os = 0) (hr : ¬ (0 ≤ fr ∧ fr < to ∧ to ≤ (allN os : Int))) :
    Cr Try.prog 19 #[.agg #[.bool dn, .int .i64 s0, .int .i64 s1, .int .i64 c0, .int .i64 c1, .slice pw nw cw], .slice po no co, .int .i64 fr, .int .i64 to] ro (.tuple #[.agg #[.int .i64 0, .int .i64 0], .int .i64 3]) := by
  have hl1 := hx.count spC_len (by decide)
  have hl2 := hy.count oC_len (by decide)
  have sv0 := chk_shop he
  rw [hl1, hl2] at sv0
  have ab := allN_bd sv0.ords.1
  have sv := Hold.mk (shop_turn dn sv0)
  refine Cr.ofD fun F hF hT => ?_
  subst hF
  have hop : Hold (∀ (h : Hp) (K : Value → Hp → Prop), (∀ gs po' co' pf cf h', (∀ y o, h.own y = some o → h'.own y = some o) → Hold (ShopR (h'.cell? F) gs (sgnA dn s0 s1) (sgnB dn s0 s1) (sgnA dn c0 c1) (sgnB dn c0 c1) pw nw cw po' no co' pf cf dn ws (ordT dn os)) → F.w0.heap.size ≤ gs → h.own gs = none → K (.tuple #[.pointer (some ⟨gs, 0, none⟩), .int .i64 0]) h') → DCall Try.prog F 63 #[.agg #[.bool dn, .int .i64 s0, .int .i64 s1, .int .i64 c0, .int .i64 c1, .slice pw nw cw], .slice po no co] h K) := ⟨fun h K hK => open_K F h K dn s0 s1 c0 c1 pw nw cw ws po no co os (hx.mono fun a u e => Hp.cell_ro e) hb (hy.mono fun a u e => Hp.cell_ro e) hb' he hK⟩
  have ha : Hold (∀ ro gs po' co' pf cf, ShopR ro gs (sgnA dn s0 s1) (sgnB dn s0 s1) (sgnA dn c0 c1) (sgnB dn c0 c1) pw nw cw po' no co' pf cf dn ws (ordT dn os) → Cr Try.prog 64 #[.pointer (some ⟨gs, 0, none⟩)] ro (.int .i64 (allN os))) := ⟨fun ro gs po' co' pf cf h => by rw [← ordT_all dn os]; exact allN_ok ro gs _ _ _ _ pw nw cw po' no co' pf cf dn ws (ordT dn os) h sv⟩
  clear hl1 hl2 sv0 hx hy he
  obtain ⟨b, hb0⟩ : ∃ b, (decide (0 ≤ fr) && (decide (fr ≤ (allN os : Int)) && (decide (0 ≤ to) && decide (to ≤ (allN os : Int))))) = b := ⟨_, rfl⟩
  have hb1 := hb0
  have cB : b = true → (fr ≥ to) = True := fun e => by
    rw [e] at hb0
    simp only [Bool.and_eq_true, decide_eq_true_eq] at hb0
    simp only [eq_iff_iff, iff_true]
    omega
  clear hb0 hr sv ab
  generalize allN os = a at *
  cases b with
  | false =>
    clear cB
    (refine DCall.inlP (l := _) Try.func19 Try.ntmps19 rfl rfl (by simp only [seval, List.length_cons, List.length_nil]) (by simp only [seval, List.length_cons, List.length_nil]) ?_; simp only [Try.results19, List.map_cons, List.map_nil])
    repeat' (first | (with_reducible refine at_seq (by with_unfolding_all exact rfl) ?_) | ((with_reducible first | refine at_plain (by with_unfolding_all exact rfl) ?_ | refine at_cond (by with_unfolding_all exact rfl) ?_ | refine at_exit (by with_unfolding_all exact rfl) ?_ | refine at_ret (by with_unfolding_all exact rfl) ?_ | refine at_skip (by with_unfolding_all exact rfl) ?_ | refine at_label (by with_unfolding_all exact rfl) ?_) <;> try simp -implicitDefEqProofs (maxSteps := 1000000) only [go_sem, seval, *]) | (with_reducible first | refine at_block (by with_unfolding_all exact rfl) ?_ | refine at_loop (by with_unfolding_all exact rfl) ?_) | ((first | ((with_reducible refine NewK.intro fun g hg hn => ?_) <;> try simp only [own_none_iff] at hn) | ((with_reducible first | refine GuardB.split (fun hc => ?_) (fun hc => ?_) | refine CondK.split (fun hc => ?_) (fun hc => ?_) | refine PickK.split (fun hc => ?_) (fun hc => ?_) | refine GuardD.split (fun hc => ?_) (fun hc => ?_)) <;> (have hc2 := hc; try simp only [beq_eq_false_iff_ne, beq_iff_eq, ne_eq, bne_iff_ne, bne_eq_false_iff_eq, decide_eq_true_eq, decide_eq_false_iff_not, Bool.not_true, Bool.not_false, Int.not_le, Int.not_lt] at hc2)) | (with_reducible first | refine dop_buildSlice ?_ | refine dop_build ?_)) <;> simp -implicitDefEqProofs (maxSteps := 1000000) only [go_sem, seval, *]))
    refine hop.out _ _ fun gs po' co' pf cf h' f1 hS f3 f4 => ?_
    have u8 := f1 g _ (by simp -implicitDefEqProofs (maxSteps := 1000000) only [go_sem, seval, *]; rfl)
    have v8 := own_ne u8
    clear f1 hop
    simp -implicitDefEqProofs (maxSteps := 1000000) only [go_sem, seval, *]
    repeat' (first | (with_reducible refine at_seq (by with_unfolding_all exact rfl) ?_) | ((with_reducible first | refine at_plain (by with_unfolding_all exact rfl) ?_ | refine at_cond (by with_unfolding_all exact rfl) ?_ | refine at_exit (by with_unfolding_all exact rfl) ?_ | refine at_ret (by with_unfolding_all exact rfl) ?_ | refine at_skip (by with_unfolding_all exact rfl) ?_ | refine at_label (by with_unfolding_all exact rfl) ?_) <;> try simp -implicitDefEqProofs (maxSteps := 1000000) only [go_sem, seval, *]) | (with_reducible first | refine at_block (by with_unfolding_all exact rfl) ?_ | refine at_loop (by with_unfolding_all exact rfl) ?_) | ((first | ((with_reducible refine NewK.intro fun g hg hn => ?_) <;> try simp only [own_none_iff] at hn) | ((with_reducible first | refine GuardB.split (fun hc => ?_) (fun hc => ?_) | refine CondK.split (fun hc => ?_) (fun hc => ?_) | refine PickK.split (fun hc => ?_) (fun hc => ?_) | refine GuardD.split (fun hc => ?_) (fun hc => ?_)) <;> (have hc2 := hc; try simp only [beq_eq_false_iff_ne, beq_iff_eq, ne_eq, bne_iff_ne, bne_eq_false_iff_eq, decide_eq_true_eq, decide_eq_false_iff_not, Bool.not_true, Bool.not_false, Int.not_le, Int.not_lt] at hc2)) | (with_reducible first | refine dop_buildSlice ?_ | refine dop_build ?_) | ((with_reducible refine Cr.call (f := 64) (ha.out _ _ _ _ _ _ hS.out) ?_)) | (with_reducible refine CallV.of (f := 64) (ha.out _ _ _ _ _ _ hS.out) ni64 ?_) | ((with_reducible refine Cr.call (f := 60) (withinB_ok _ _ _ _ _ _ _ (by simp -implicitDefEqProofs (maxSteps := 1000000) only [go_sem, seval, *]) ⟨by decide⟩) ?_)) | (with_reducible refine CallV.of (f := 60) (withinB_ok _ _ _ _ _ _ _ (by simp -implicitDefEqProofs (maxSteps := 1000000) only [go_sem, seval, *]) ⟨by decide⟩) ni60 ?_)) <;> simp -implicitDefEqProofs (maxSteps := 1000000) only [go_sem, seval, *]))
  | true =>
    have c2 := cB rfl
    clear cB
    (refine DCall.inlP (l := _) Try.func19 Try.ntmps19 rfl rfl (by simp only [seval, List.length_cons, List.length_nil]) (by simp only [seval, List.length_cons, List.length_nil]) ?_; simp only [Try.results19, List.map_cons, List.map_nil])
    repeat' (first | (with_reducible refine at_seq (by with_unfolding_all exact rfl) ?_) | ((with_reducible first | refine at_plain (by with_unfolding_all exact rfl) ?_ | refine at_cond (by with_unfolding_all exact rfl) ?_ | refine at_exit (by with_unfolding_all exact rfl) ?_ | refine at_ret (by with_unfolding_all exact rfl) ?_ | refine at_skip (by with_unfolding_all exact rfl) ?_ | refine at_label (by with_unfolding_all exact rfl) ?_) <;> try simp -implicitDefEqProofs (maxSteps := 1000000) only [go_sem, seval, *]) | (with_reducible first | refine at_block (by with_unfolding_all exact rfl) ?_ | refine at_loop (by with_unfolding_all exact rfl) ?_) | ((first | ((with_reducible refine NewK.intro fun g hg hn => ?_) <;> try simp only [own_none_iff] at hn) | ((with_reducible first | refine GuardB.split (fun hc => ?_) (fun hc => ?_) | refine CondK.split (fun hc => ?_) (fun hc => ?_) | refine PickK.split (fun hc => ?_) (fun hc => ?_) | refine GuardD.split (fun hc => ?_) (fun hc => ?_)) <;> (have hc2 := hc; try simp only [beq_eq_false_iff_ne, beq_iff_eq, ne_eq, bne_iff_ne, bne_eq_false_iff_eq, decide_eq_true_eq, decide_eq_false_iff_not, Bool.not_true, Bool.not_false, Int.not_le, Int.not_lt] at hc2)) | (with_reducible first | refine dop_buildSlice ?_ | refine dop_build ?_)) <;> simp -implicitDefEqProofs (maxSteps := 1000000) only [go_sem, seval, *]))
    refine hop.out _ _ fun gs po' co' pf cf h' f1 hS f3 f4 => ?_
    have u8 := f1 g _ (by simp -implicitDefEqProofs (maxSteps := 1000000) only [go_sem, seval, *]; rfl)
    have v8 := own_ne u8
    clear f1 hop
    simp -implicitDefEqProofs (maxSteps := 1000000) only [go_sem, seval, *]
    repeat' (first | (with_reducible refine at_seq (by with_unfolding_all exact rfl) ?_) | ((with_reducible first | refine at_plain (by with_unfolding_all exact rfl) ?_ | refine at_cond (by with_unfolding_all exact rfl) ?_ | refine at_exit (by with_unfolding_all exact rfl) ?_ | refine at_ret (by with_unfolding_all exact rfl) ?_ | refine at_skip (by with_unfolding_all exact rfl) ?_ | refine at_label (by with_unfolding_all exact rfl) ?_) <;> try simp -implicitDefEqProofs (maxSteps := 1000000) only [go_sem, seval, *]) | (with_reducible first | refine at_block (by with_unfolding_all exact rfl) ?_ | refine at_loop (by with_unfolding_all exact rfl) ?_) | ((first | ((with_reducible refine NewK.intro fun g hg hn => ?_) <;> try simp only [own_none_iff] at hn) | ((with_reducible first | refine GuardB.split (fun hc => ?_) (fun hc => ?_) | refine CondK.split (fun hc => ?_) (fun hc => ?_) | refine PickK.split (fun hc => ?_) (fun hc => ?_) | refine GuardD.split (fun hc => ?_) (fun hc => ?_)) <;> (have hc2 := hc; try simp only [beq_eq_false_iff_ne, beq_iff_eq, ne_eq, bne_iff_ne, bne_eq_false_iff_eq, decide_eq_true_eq, decide_eq_false_iff_not, Bool.not_true, Bool.not_false, Int.not_le, Int.not_lt] at hc2)) | (with_reducible first | refine dop_buildSlice ?_ | refine dop_build ?_) | ((with_reducible refine Cr.call (f := 64) (ha.out _ _ _ _ _ _ hS.out) ?_)) | (with_reducible refine CallV.of (f := 64) (ha.out _ _ _ _ _ _ hS.out) ni64 ?_) | ((with_reducible refine Cr.call (f := 60) (withinB_ok _ _ _ _ _ _ _ (by simp -implicitDefEqProofs (maxSteps := 1000000) only [go_sem, seval, *]) ⟨by decide⟩) ?_)) | (with_reducible refine CallV.of (f := 60) (withinB_ok _ _ _ _ _ _ _ (by simp -implicitDefEqProofs (maxSteps := 1000000) only [go_sem, seval, *]) ⟨by decide⟩) ni60 ?_)) <;> simp -implicitDefEqProofs (maxSteps := 1000000) only [go_sem, seval, *]))
set_option maxHeartbeats 4000000 in
theorem Wear_K (ro : Addr → Option Value) (dn : Bool) (s0 s1 c0 c1 : Int) (pw : Option Addr) (nw cw : Nat) (ws : List (Int × Int)) (po : Option Addr) (no co : Nat) (os : List Ord) (fr to : Nat) (hx : RdS ro pw nw 2 (ws.flatMap spC)) (hb : Hold (nw < 9223372036854775808)) (hy : RdS ro po no 4 (os.flatMap oC)) (hb' : Hold (no < 9223372036854775808)) (he : chkV s0 s1 c0 c1 ws os = 0) (hr : fr ≤ to ∧ to ≤ allN os) :
    Cr Try.prog 18 #[.agg #[.bool dn, .int .i64 s0, .int .i64 s1, .int .i64 c0, .int .i64 c1, .slice pw nw cw], .slice po no co, .int .i64 fr, .int .i64 to] ro (.tuple #[.agg #[.int .i64 ((wP ws os to).1 - (wP ws os fr).1), .int .i64 ((wP ws os to).2 - (wP ws os fr).2)], .int .i64 0]) := by
  have hl1 := hx.count spC_len (by decide)
  have hl2 := hy.count oC_len (by decide)
  have sv0 := chk_shop he
  rw [hl1, hl2] at sv0
  have ab := allN_bd sv0.ords.1
  have sv := Hold.mk (shop_turn dn sv0)
  refine Cr.ofD fun F hF hT => ?_
  subst hF
  have hop : Hold (∀ (h : Hp) (K : Value → Hp → Prop), (∀ gs po' co' pf cf h', (∀ y o, h.own y = some o → h'.own y = some o) → Hold (ShopR (h'.cell? F) gs (sgnA dn s0 s1) (sgnB dn s0 s1) (sgnA dn c0 c1) (sgnB dn c0 c1) pw nw cw po' no co' pf cf dn ws (ordT dn os)) → F.w0.heap.size ≤ gs → h.own gs = none → K (.tuple #[.pointer (some ⟨gs, 0, none⟩), .int .i64 0]) h') → DCall Try.prog F 63 #[.agg #[.bool dn, .int .i64 s0, .int .i64 s1, .int .i64 c0, .int .i64 c1, .slice pw nw cw], .slice po no co] h K) := ⟨fun h K hK => open_K F h K dn s0 s1 c0 c1 pw nw cw ws po no co os (hx.mono fun a u e => Hp.cell_ro e) hb (hy.mono fun a u e => Hp.cell_ro e) hb' he hK⟩
  have ha : Hold (∀ ro gs po' co' pf cf, ShopR ro gs (sgnA dn s0 s1) (sgnB dn s0 s1) (sgnA dn c0 c1) (sgnB dn c0 c1) pw nw cw po' no co' pf cf dn ws (ordT dn os) → Cr Try.prog 64 #[.pointer (some ⟨gs, 0, none⟩)] ro (.int .i64 (allN os))) := ⟨fun ro gs po' co' pf cf h => by rw [← ordT_all dn os]; exact allN_ok ro gs _ _ _ _ pw nw cw po' no co' pf cf dn ws (ordT dn os) h sv⟩
  clear hl1 hl2 sv0 hx hy he
  have hb1 : (decide (0 ≤ (fr : Int)) && (decide ((fr : Int) ≤ (allN os : Int)) && (decide (0 ≤ (to : Int)) && decide ((to : Int) ≤ (allN os : Int))))) = true := by
    simp only [Bool.and_eq_true, decide_eq_true_eq]
    omega
  have hw : Hold (∀ ro gs po' co' pf cf, ShopR ro gs (sgnA dn s0 s1) (sgnB dn s0 s1) (sgnA dn c0 c1) (sgnB dn c0 c1) pw nw cw po' no co' pf cf dn ws (ordT dn os) → Cr Try.prog 65 #[.pointer (some ⟨gs, 0, none⟩), .int .i64 fr, .int .i64 to] ro (.agg #[.int .i64 ((wP ws os to).1 - (wP ws os fr).1), .int .i64 ((wP ws os to).2 - (wP ws os fr).2)])) := ⟨fun ro gs po' co' pf cf h => by
    have q := wear_ok ro gs _ _ _ _ pw nw cw po' no co' pf cf dn ws (ordT dn os) fr to h ⟨sv.out.ords⟩ ⟨sv.out.wears⟩ ⟨by omega⟩
    have e := wear_eq sv.out.ords.1 sv.out.wears (fr := fr) (to := to) hr.1 (by rw [← ordT_all dn os] at hr; exact hr.2)
    rw [sv.out.ords.2, wP_ordT, wP_ordT] at e
    rw [e.1, e.2] at q
    exact q⟩
  have c2 : ((fr : Int) > (to : Int)) = False := by simp only [eq_iff_iff, iff_false]; omega
  generalize (wP ws os to).1 - (wP ws os fr).1 = x at *
  generalize (wP ws os to).2 - (wP ws os fr).2 = y at *
  clear hr sv ab
  generalize allN os = a at *
  (refine DCall.inlP (l := _) Try.func18 Try.ntmps18 rfl rfl (by simp only [seval, List.length_cons, List.length_nil]) (by simp only [seval, List.length_cons, List.length_nil]) ?_; simp only [Try.results18, List.map_cons, List.map_nil])
  repeat' (first | (with_reducible refine at_seq (by with_unfolding_all exact rfl) ?_) | ((with_reducible first | refine at_plain (by with_unfolding_all exact rfl) ?_ | refine at_cond (by with_unfolding_all exact rfl) ?_ | refine at_exit (by with_unfolding_all exact rfl) ?_ | refine at_ret (by with_unfolding_all exact rfl) ?_ | refine at_skip (by with_unfolding_all exact rfl) ?_ | refine at_label (by with_unfolding_all exact rfl) ?_) <;> try simp -implicitDefEqProofs (maxSteps := 1000000) only [go_sem, seval, *]) | (with_reducible first | refine at_block (by with_unfolding_all exact rfl) ?_ | refine at_loop (by with_unfolding_all exact rfl) ?_) | ((first | ((with_reducible refine NewK.intro fun g hg hn => ?_) <;> try simp only [own_none_iff] at hn) | ((with_reducible first | refine GuardB.split (fun hc => ?_) (fun hc => ?_) | refine CondK.split (fun hc => ?_) (fun hc => ?_) | refine PickK.split (fun hc => ?_) (fun hc => ?_) | refine GuardD.split (fun hc => ?_) (fun hc => ?_)) <;> (have hc2 := hc; try simp only [beq_eq_false_iff_ne, beq_iff_eq, ne_eq, bne_iff_ne, bne_eq_false_iff_eq, decide_eq_true_eq, decide_eq_false_iff_not, Bool.not_true, Bool.not_false, Int.not_le, Int.not_lt] at hc2)) | (with_reducible first | refine dop_buildSlice ?_ | refine dop_build ?_)) <;> simp -implicitDefEqProofs (maxSteps := 1000000) only [go_sem, seval, *]))
  refine hop.out _ _ fun gs po' co' pf cf h' f1 hS f3 f4 => ?_
  have u8 := f1 g _ (by simp -implicitDefEqProofs (maxSteps := 1000000) only [go_sem, seval, *]; rfl)
  have v8 := own_ne u8
  clear f1 hop
  simp -implicitDefEqProofs (maxSteps := 1000000) only [go_sem, seval, *]
  repeat' (first | (with_reducible refine at_seq (by with_unfolding_all exact rfl) ?_) | ((with_reducible first | refine at_plain (by with_unfolding_all exact rfl) ?_ | refine at_cond (by with_unfolding_all exact rfl) ?_ | refine at_exit (by with_unfolding_all exact rfl) ?_ | refine at_ret (by with_unfolding_all exact rfl) ?_ | refine at_skip (by with_unfolding_all exact rfl) ?_ | refine at_label (by with_unfolding_all exact rfl) ?_) <;> try simp -implicitDefEqProofs (maxSteps := 1000000) only [go_sem, seval, *]) | (with_reducible first | refine at_block (by with_unfolding_all exact rfl) ?_ | refine at_loop (by with_unfolding_all exact rfl) ?_) | ((first | ((with_reducible refine NewK.intro fun g hg hn => ?_) <;> try simp only [own_none_iff] at hn) | ((with_reducible first | refine GuardB.split (fun hc => ?_) (fun hc => ?_) | refine CondK.split (fun hc => ?_) (fun hc => ?_) | refine PickK.split (fun hc => ?_) (fun hc => ?_) | refine GuardD.split (fun hc => ?_) (fun hc => ?_)) <;> (have hc2 := hc; try simp only [beq_eq_false_iff_ne, beq_iff_eq, ne_eq, bne_iff_ne, bne_eq_false_iff_eq, decide_eq_true_eq, decide_eq_false_iff_not, Bool.not_true, Bool.not_false, Int.not_le, Int.not_lt] at hc2)) | (with_reducible first | refine dop_buildSlice ?_ | refine dop_build ?_) | ((with_reducible refine Cr.call (f := 64) (ha.out _ _ _ _ _ _ hS.out) ?_)) | (with_reducible refine CallV.of (f := 64) (ha.out _ _ _ _ _ _ hS.out) ni64 ?_) | ((with_reducible refine Cr.call (f := 60) (withinB_ok _ _ _ _ _ _ _ (by simp -implicitDefEqProofs (maxSteps := 1000000) only [go_sem, seval, *]) ⟨by decide⟩) ?_)) | (with_reducible refine CallV.of (f := 60) (withinB_ok _ _ _ _ _ _ _ (by simp -implicitDefEqProofs (maxSteps := 1000000) only [go_sem, seval, *]) ⟨by decide⟩) ni60 ?_) | ((with_reducible refine Cr.call (f := 65) (hw.out _ _ _ _ _ _ (hS.out.mono fun a u e => sub_cell (sub_setN (by assumption)) e)) ?_)) | (with_reducible refine CallV.of (f := 65) (hw.out _ _ _ _ _ _ (hS.out.mono fun a u e => sub_cell (sub_setN (by assumption)) e)) ni65 ?_)) <;> simp -implicitDefEqProofs (maxSteps := 1000000) only [go_sem, seval, *]))
set_option maxHeartbeats 4000000 in
theorem Targets_N (ro : Addr → Option Value) (dn : Bool) (s0 s1 c0 c1 : Int) (pw : Option Addr) (nw cw : Nat) (ws : List (Int × Int)) (po : Option Addr) (no co : Nat) (os : List Ord) (fr to : Nat) (hx : RdS ro pw nw 2 (ws.flatMap spC)) (hb : Hold (nw < 9223372036854775808)) (hy : RdS ro po no 4 (os.flatMap oC)) (hb' : Hold (no < 9223372036854775808)) (he : chkV s0 s1 c0 c1 ws os = 0) (hr : fr < to ∧ to ≤ allN os) (hc : canV (sgnA dn s0 s1) (sgnB dn s0 s1) (sgnA dn c0 c1) (sgnB dn c0 c1) ws (ordT dn os) fr to = false) :
    Cr Try.prog 19 #[.agg #[.bool dn, .int .i64 s0, .int .i64 s1, .int .i64 c0, .int .i64 c1, .slice pw nw cw], .slice po no co, .int .i64 fr, .int .i64 to] ro (.tuple #[.agg #[.int .i64 0, .int .i64 0], .int .i64 9]) := by
  have hl1 := hx.count spC_len (by decide)
  have hl2 := hy.count oC_len (by decide)
  have sv0 := chk_shop he
  rw [hl1, hl2] at sv0
  have ab := allN_bd sv0.ords.1
  have sv := Hold.mk (shop_turn dn sv0)
  refine Cr.ofD fun F hF hT => ?_
  subst hF
  have hop : Hold (∀ (h : Hp) (K : Value → Hp → Prop), (∀ gs po' co' pf cf h', (∀ y o, h.own y = some o → h'.own y = some o) → Hold (ShopR (h'.cell? F) gs (sgnA dn s0 s1) (sgnB dn s0 s1) (sgnA dn c0 c1) (sgnB dn c0 c1) pw nw cw po' no co' pf cf dn ws (ordT dn os)) → F.w0.heap.size ≤ gs → h.own gs = none → K (.tuple #[.pointer (some ⟨gs, 0, none⟩), .int .i64 0]) h') → DCall Try.prog F 63 #[.agg #[.bool dn, .int .i64 s0, .int .i64 s1, .int .i64 c0, .int .i64 c1, .slice pw nw cw], .slice po no co] h K) := ⟨fun h K hK => open_K F h K dn s0 s1 c0 c1 pw nw cw ws po no co os (hx.mono fun a u e => Hp.cell_ro e) hb (hy.mono fun a u e => Hp.cell_ro e) hb' he hK⟩
  have ha : Hold (∀ ro gs po' co' pf cf, ShopR ro gs (sgnA dn s0 s1) (sgnB dn s0 s1) (sgnA dn c0 c1) (sgnB dn c0 c1) pw nw cw po' no co' pf cf dn ws (ordT dn os) → Cr Try.prog 64 #[.pointer (some ⟨gs, 0, none⟩)] ro (.int .i64 (allN os))) := ⟨fun ro gs po' co' pf cf h => by rw [← ordT_all dn os]; exact allN_ok ro gs _ _ _ _ pw nw cw po' no co' pf cf dn ws (ordT dn os) h sv⟩
  clear hl1 hl2 sv0 hx hy he
  have hb1 : (decide (0 ≤ (fr : Int)) && (decide ((fr : Int) ≤ (allN os : Int)) && (decide (0 ≤ (to : Int)) && decide ((to : Int) ≤ (allN os : Int))))) = true := by
    simp only [Bool.and_eq_true, decide_eq_true_eq]
    omega
  have hcn : Hold (∀ ro gs po' co' pf cf, ShopR ro gs (sgnA dn s0 s1) (sgnB dn s0 s1) (sgnA dn c0 c1) (sgnB dn c0 c1) pw nw cw po' no co' pf cf dn ws (ordT dn os) → Cr Try.prog 66 #[.pointer (some ⟨gs, 0, none⟩), .int .i64 fr, .int .i64 to] ro (.bool false)) := ⟨fun ro gs po' co' pf cf h => by rw [← hc]; exact can_ok ro gs _ _ _ _ pw nw cw po' no co' pf cf dn ws (ordT dn os) fr to h sv ⟨by omega⟩⟩
  have c2 : ((fr : Int) ≥ (to : Int)) = False := by simp only [eq_iff_iff, iff_false]; omega
  clear hr sv ab hc
  generalize allN os = a at *
  (refine DCall.inlP (l := _) Try.func19 Try.ntmps19 rfl rfl (by simp only [seval, List.length_cons, List.length_nil]) (by simp only [seval, List.length_cons, List.length_nil]) ?_; simp only [Try.results19, List.map_cons, List.map_nil])
  repeat' (first | (with_reducible refine at_seq (by with_unfolding_all exact rfl) ?_) | ((with_reducible first | refine at_plain (by with_unfolding_all exact rfl) ?_ | refine at_cond (by with_unfolding_all exact rfl) ?_ | refine at_exit (by with_unfolding_all exact rfl) ?_ | refine at_ret (by with_unfolding_all exact rfl) ?_ | refine at_skip (by with_unfolding_all exact rfl) ?_ | refine at_label (by with_unfolding_all exact rfl) ?_) <;> try simp -implicitDefEqProofs (maxSteps := 1000000) only [go_sem, seval, *]) | (with_reducible first | refine at_block (by with_unfolding_all exact rfl) ?_ | refine at_loop (by with_unfolding_all exact rfl) ?_) | ((first | ((with_reducible refine NewK.intro fun g hg hn => ?_) <;> try simp only [own_none_iff] at hn) | ((with_reducible first | refine GuardB.split (fun hc => ?_) (fun hc => ?_) | refine CondK.split (fun hc => ?_) (fun hc => ?_) | refine PickK.split (fun hc => ?_) (fun hc => ?_) | refine GuardD.split (fun hc => ?_) (fun hc => ?_)) <;> (have hc2 := hc; try simp only [beq_eq_false_iff_ne, beq_iff_eq, ne_eq, bne_iff_ne, bne_eq_false_iff_eq, decide_eq_true_eq, decide_eq_false_iff_not, Bool.not_true, Bool.not_false, Int.not_le, Int.not_lt] at hc2)) | (with_reducible first | refine dop_buildSlice ?_ | refine dop_build ?_)) <;> simp -implicitDefEqProofs (maxSteps := 1000000) only [go_sem, seval, *]))
  refine hop.out _ _ fun gs po' co' pf cf h' f1 hS f3 f4 => ?_
  have u8 := f1 g _ (by simp -implicitDefEqProofs (maxSteps := 1000000) only [go_sem, seval, *]; rfl)
  have v8 := own_ne u8
  clear f1 hop
  simp -implicitDefEqProofs (maxSteps := 1000000) only [go_sem, seval, *]
  repeat' (first | (with_reducible refine at_seq (by with_unfolding_all exact rfl) ?_) | ((with_reducible first | refine at_plain (by with_unfolding_all exact rfl) ?_ | refine at_cond (by with_unfolding_all exact rfl) ?_ | refine at_exit (by with_unfolding_all exact rfl) ?_ | refine at_ret (by with_unfolding_all exact rfl) ?_ | refine at_skip (by with_unfolding_all exact rfl) ?_ | refine at_label (by with_unfolding_all exact rfl) ?_) <;> try simp -implicitDefEqProofs (maxSteps := 1000000) only [go_sem, seval, *]) | (with_reducible first | refine at_block (by with_unfolding_all exact rfl) ?_ | refine at_loop (by with_unfolding_all exact rfl) ?_) | ((first | ((with_reducible refine NewK.intro fun g hg hn => ?_) <;> try simp only [own_none_iff] at hn) | ((with_reducible first | refine GuardB.split (fun hc => ?_) (fun hc => ?_) | refine CondK.split (fun hc => ?_) (fun hc => ?_) | refine PickK.split (fun hc => ?_) (fun hc => ?_) | refine GuardD.split (fun hc => ?_) (fun hc => ?_)) <;> (have hc2 := hc; try simp only [beq_eq_false_iff_ne, beq_iff_eq, ne_eq, bne_iff_ne, bne_eq_false_iff_eq, decide_eq_true_eq, decide_eq_false_iff_not, Bool.not_true, Bool.not_false, Int.not_le, Int.not_lt] at hc2)) | (with_reducible first | refine dop_buildSlice ?_ | refine dop_build ?_) | ((with_reducible refine Cr.call (f := 64) (ha.out _ _ _ _ _ _ hS.out) ?_)) | (with_reducible refine CallV.of (f := 64) (ha.out _ _ _ _ _ _ hS.out) ni64 ?_) | ((with_reducible refine Cr.call (f := 60) (withinB_ok _ _ _ _ _ _ _ (by simp -implicitDefEqProofs (maxSteps := 1000000) only [go_sem, seval, *]) ⟨by decide⟩) ?_)) | (with_reducible refine CallV.of (f := 60) (withinB_ok _ _ _ _ _ _ _ (by simp -implicitDefEqProofs (maxSteps := 1000000) only [go_sem, seval, *]) ⟨by decide⟩) ni60 ?_) | ((with_reducible refine Cr.call (f := 66) (hcn.out _ _ _ _ _ _ (hS.out.mono fun a u e => sub_cell (sub_setN (by assumption)) e)) ?_)) | (with_reducible refine CallV.of (f := 66) (hcn.out _ _ _ _ _ _ (hS.out.mono fun a u e => sub_cell (sub_setN (by assumption)) e)) ni66 ?_)) <;> simp -implicitDefEqProofs (maxSteps := 1000000) only [go_sem, seval, *]))
set_option maxHeartbeats 4000000 in
theorem Targets_K (ro : Addr → Option Value) (dn : Bool) (s0 s1 c0 c1 : Int) (pw : Option Addr) (nw cw : Nat) (ws : List (Int × Int)) (po : Option Addr) (no co : Nat) (os : List Ord) (fr to : Nat) (hx : RdS ro pw nw 2 (ws.flatMap spC)) (hb : Hold (nw < 9223372036854775808)) (hy : RdS ro po no 4 (os.flatMap oC)) (hb' : Hold (no < 9223372036854775808)) (he : chkV s0 s1 c0 c1 ws os = 0) (hr : fr < to ∧ to ≤ allN os) (hc : canV (sgnA dn s0 s1) (sgnB dn s0 s1) (sgnA dn c0 c1) (sgnB dn c0 c1) ws (ordT dn os) fr to = true) :
    Cr Try.prog 19 #[.agg #[.bool dn, .int .i64 s0, .int .i64 s1, .int .i64 c0, .int .i64 c1, .slice pw nw cw], .slice po no co, .int .i64 fr, .int .i64 to] ro (.tuple #[.agg #[.int .i64 (backV dn (tgF (sgnA dn s0 s1) (sgnB dn s0 s1) (sgnA dn c0 c1) (sgnB dn c0 c1) ws (ordT dn os) fr to)).1, .int .i64 (backV dn (tgF (sgnA dn s0 s1) (sgnB dn s0 s1) (sgnA dn c0 c1) (sgnB dn c0 c1) ws (ordT dn os) fr to)).2], .int .i64 0]) := by
  have hl1 := hx.count spC_len (by decide)
  have hl2 := hy.count oC_len (by decide)
  have sv0 := chk_shop he
  rw [hl1, hl2] at sv0
  have ab := allN_bd sv0.ords.1
  have sv := Hold.mk (shop_turn dn sv0)
  refine Cr.ofD fun F hF hT => ?_
  subst hF
  have hop : Hold (∀ (h : Hp) (K : Value → Hp → Prop), (∀ gs po' co' pf cf h', (∀ y o, h.own y = some o → h'.own y = some o) → Hold (ShopR (h'.cell? F) gs (sgnA dn s0 s1) (sgnB dn s0 s1) (sgnA dn c0 c1) (sgnB dn c0 c1) pw nw cw po' no co' pf cf dn ws (ordT dn os)) → F.w0.heap.size ≤ gs → h.own gs = none → K (.tuple #[.pointer (some ⟨gs, 0, none⟩), .int .i64 0]) h') → DCall Try.prog F 63 #[.agg #[.bool dn, .int .i64 s0, .int .i64 s1, .int .i64 c0, .int .i64 c1, .slice pw nw cw], .slice po no co] h K) := ⟨fun h K hK => open_K F h K dn s0 s1 c0 c1 pw nw cw ws po no co os (hx.mono fun a u e => Hp.cell_ro e) hb (hy.mono fun a u e => Hp.cell_ro e) hb' he hK⟩
  have ha : Hold (∀ ro gs po' co' pf cf, ShopR ro gs (sgnA dn s0 s1) (sgnB dn s0 s1) (sgnA dn c0 c1) (sgnB dn c0 c1) pw nw cw po' no co' pf cf dn ws (ordT dn os) → Cr Try.prog 64 #[.pointer (some ⟨gs, 0, none⟩)] ro (.int .i64 (allN os))) := ⟨fun ro gs po' co' pf cf h => by rw [← ordT_all dn os]; exact allN_ok ro gs _ _ _ _ pw nw cw po' no co' pf cf dn ws (ordT dn os) h sv⟩
  clear hl1 hl2 sv0 hx hy he
  have hb1 : (decide (0 ≤ (fr : Int)) && (decide ((fr : Int) ≤ (allN os : Int)) && (decide (0 ≤ (to : Int)) && decide ((to : Int) ≤ (allN os : Int))))) = true := by
    simp only [Bool.and_eq_true, decide_eq_true_eq]
    omega
  have hcn : Hold (∀ ro gs po' co' pf cf, ShopR ro gs (sgnA dn s0 s1) (sgnB dn s0 s1) (sgnA dn c0 c1) (sgnB dn c0 c1) pw nw cw po' no co' pf cf dn ws (ordT dn os) → Cr Try.prog 66 #[.pointer (some ⟨gs, 0, none⟩), .int .i64 fr, .int .i64 to] ro (.bool true)) := ⟨fun ro gs po' co' pf cf h => by rw [← hc]; exact can_ok ro gs _ _ _ _ pw nw cw po' no co' pf cf dn ws (ordT dn os) fr to h sv ⟨by omega⟩⟩
  have c2 : ((fr : Int) ≥ (to : Int)) = False := by simp only [eq_iff_iff, iff_false]; omega
  have tb := tgF_bd sv.out (fr := fr) (to := to) hr.1 (by rw [ordT_all]; exact hr.2)
  have ht : Hold (∀ ro gs po' co' pf cf, ShopR ro gs (sgnA dn s0 s1) (sgnB dn s0 s1) (sgnA dn c0 c1) (sgnB dn c0 c1) pw nw cw po' no co' pf cf dn ws (ordT dn os) → Cr Try.prog 68 #[.pointer (some ⟨gs, 0, none⟩), .int .i64 fr, .int .i64 to] ro (.agg #[.int .i64 (tgF (sgnA dn s0 s1) (sgnB dn s0 s1) (sgnA dn c0 c1) (sgnB dn c0 c1) ws (ordT dn os) fr to).1, .int .i64 (tgF (sgnA dn s0 s1) (sgnB dn s0 s1) (sgnA dn c0 c1) (sgnB dn c0 c1) ws (ordT dn os) fr to).2])) := ⟨fun ro gs po' co' pf cf h => tgF_ok ro gs _ _ _ _ pw nw cw po' no co' pf cf dn ws (ordT dn os) fr to h sv ⟨by omega⟩⟩
  generalize tgF (sgnA dn s0 s1) (sgnB dn s0 s1) (sgnA dn c0 c1) (sgnB dn c0 c1) ws (ordT dn os) fr to = t at *
  have x1 : IntKind.i64.wrap (0 - t.1) = -t.1 := by rw [IntWalk.i64_in _ (by omega)]; omega
  have x2 : IntKind.i64.wrap (0 - t.2) = -t.2 := by rw [IntWalk.i64_in _ (by omega)]; omega
  have hk : Hold (∀ ro gs po' co' pf cf, ShopR ro gs (sgnA dn s0 s1) (sgnB dn s0 s1) (sgnA dn c0 c1) (sgnB dn c0 c1) pw nw cw po' no co' pf cf dn ws (ordT dn os) → Cr Try.prog 67 #[.pointer (some ⟨gs, 0, none⟩), .agg #[.int .i64 t.1, .int .i64 t.2]] ro (.agg #[.int .i64 (backV dn t).1, .int .i64 (backV dn t).2])) := ⟨fun ro gs po' co' pf cf h => back_ok ro gs dn t.1 t.2 h.m8 x1 x2⟩
  generalize backV dn t = w at *
  clear hr sv ab hc tb x1 x2
  generalize allN os = a at *
  (refine DCall.inlP (l := _) Try.func19 Try.ntmps19 rfl rfl (by simp only [seval, List.length_cons, List.length_nil]) (by simp only [seval, List.length_cons, List.length_nil]) ?_; simp only [Try.results19, List.map_cons, List.map_nil])
  repeat' (first | (with_reducible refine at_seq (by with_unfolding_all exact rfl) ?_) | ((with_reducible first | refine at_plain (by with_unfolding_all exact rfl) ?_ | refine at_cond (by with_unfolding_all exact rfl) ?_ | refine at_exit (by with_unfolding_all exact rfl) ?_ | refine at_ret (by with_unfolding_all exact rfl) ?_ | refine at_skip (by with_unfolding_all exact rfl) ?_ | refine at_label (by with_unfolding_all exact rfl) ?_) <;> try simp -implicitDefEqProofs (maxSteps := 1000000) only [go_sem, seval, *]) | (with_reducible first | refine at_block (by with_unfolding_all exact rfl) ?_ | refine at_loop (by with_unfolding_all exact rfl) ?_) | ((first | ((with_reducible refine NewK.intro fun g hg hn => ?_) <;> try simp only [own_none_iff] at hn) | ((with_reducible first | refine GuardB.split (fun hc => ?_) (fun hc => ?_) | refine CondK.split (fun hc => ?_) (fun hc => ?_) | refine PickK.split (fun hc => ?_) (fun hc => ?_) | refine GuardD.split (fun hc => ?_) (fun hc => ?_)) <;> (have hc2 := hc; try simp only [beq_eq_false_iff_ne, beq_iff_eq, ne_eq, bne_iff_ne, bne_eq_false_iff_eq, decide_eq_true_eq, decide_eq_false_iff_not, Bool.not_true, Bool.not_false, Int.not_le, Int.not_lt] at hc2)) | (with_reducible first | refine dop_buildSlice ?_ | refine dop_build ?_)) <;> simp -implicitDefEqProofs (maxSteps := 1000000) only [go_sem, seval, *]))
  refine hop.out _ _ fun gs po' co' pf cf h' f1 hS f3 f4 => ?_
  have u8 := f1 g _ (by simp -implicitDefEqProofs (maxSteps := 1000000) only [go_sem, seval, *]; rfl)
  have v8 := own_ne u8
  clear f1 hop
  simp -implicitDefEqProofs (maxSteps := 1000000) only [go_sem, seval, *]
  repeat' (first | (with_reducible refine at_seq (by with_unfolding_all exact rfl) ?_) | ((with_reducible first | refine at_plain (by with_unfolding_all exact rfl) ?_ | refine at_cond (by with_unfolding_all exact rfl) ?_ | refine at_exit (by with_unfolding_all exact rfl) ?_ | refine at_ret (by with_unfolding_all exact rfl) ?_ | refine at_skip (by with_unfolding_all exact rfl) ?_ | refine at_label (by with_unfolding_all exact rfl) ?_) <;> try simp -implicitDefEqProofs (maxSteps := 1000000) only [go_sem, seval, *]) | (with_reducible first | refine at_block (by with_unfolding_all exact rfl) ?_ | refine at_loop (by with_unfolding_all exact rfl) ?_) | ((first | ((with_reducible refine NewK.intro fun g hg hn => ?_) <;> try simp only [own_none_iff] at hn) | ((with_reducible first | refine GuardB.split (fun hc => ?_) (fun hc => ?_) | refine CondK.split (fun hc => ?_) (fun hc => ?_) | refine PickK.split (fun hc => ?_) (fun hc => ?_) | refine GuardD.split (fun hc => ?_) (fun hc => ?_)) <;> (have hc2 := hc; try simp only [beq_eq_false_iff_ne, beq_iff_eq, ne_eq, bne_iff_ne, bne_eq_false_iff_eq, decide_eq_true_eq, decide_eq_false_iff_not, Bool.not_true, Bool.not_false, Int.not_le, Int.not_lt] at hc2)) | (with_reducible first | refine dop_buildSlice ?_ | refine dop_build ?_) | ((with_reducible refine Cr.call (f := 64) (ha.out _ _ _ _ _ _ hS.out) ?_)) | (with_reducible refine CallV.of (f := 64) (ha.out _ _ _ _ _ _ hS.out) ni64 ?_) | ((with_reducible refine Cr.call (f := 60) (withinB_ok _ _ _ _ _ _ _ (by simp -implicitDefEqProofs (maxSteps := 1000000) only [go_sem, seval, *]) ⟨by decide⟩) ?_)) | (with_reducible refine CallV.of (f := 60) (withinB_ok _ _ _ _ _ _ _ (by simp -implicitDefEqProofs (maxSteps := 1000000) only [go_sem, seval, *]) ⟨by decide⟩) ni60 ?_) | ((with_reducible refine Cr.call (f := 66) (hcn.out _ _ _ _ _ _ (hS.out.mono fun a u e => sub_cell (sub_setN (by assumption)) e)) ?_)) | (with_reducible refine CallV.of (f := 66) (hcn.out _ _ _ _ _ _ (hS.out.mono fun a u e => sub_cell (sub_setN (by assumption)) e)) ni66 ?_) | ((with_reducible refine Cr.call (f := 68) (ht.out _ _ _ _ _ _ (hS.out.mono fun a u e => sub_cell (sub_setN (by assumption)) e)) ?_)) | (with_reducible refine CallV.of (f := 68) (ht.out _ _ _ _ _ _ (hS.out.mono fun a u e => sub_cell (sub_setN (by assumption)) e)) ni68 ?_) | ((with_reducible refine Cr.call (f := 67) (hk.out _ _ _ _ _ _ (hS.out.mono fun a u e => sub_cell (sub_setN (by assumption)) e)) ?_)) | (with_reducible refine CallV.of (f := 67) (hk.out _ _ _ _ _ _ (hS.out.mono fun a u e => sub_cell (sub_setN (by assumption)) e)) ni67 ?_)) <;> simp -implicitDefEqProofs (maxSteps := 1000000) only [go_sem, seval, *]))
set_option maxHeartbeats 4000000 in
theorem Reach_R (ro : Addr → Option Value) (dn : Bool) (s0 s1 c0 c1 : Int) (pw : Option Addr) (nw cw : Nat) (ws : List (Int × Int)) (po : Option Addr) (no co : Nat) (os : List Ord) (fr : Int) (hx : RdS ro pw nw 2 (ws.flatMap spC)) (hb : Hold (nw < 9223372036854775808)) (hy : RdS ro po no 4 (os.flatMap oC)) (hb' : Hold (no < 9223372036854775808)) (he : chkV s0 s1 c0 c1 ws os = 0) (hr : ¬ (0 ≤ fr ∧ fr < (allN os : Int))) :
    Cr Try.prog 25 #[.agg #[.bool dn, .int .i64 s0, .int .i64 s1, .int .i64 c0, .int .i64 c1, .slice pw nw cw], .slice po no co, .int .i64 fr] ro (.tuple #[.int .i64 0, .int .i64 3]) := by
  have hl1 := hx.count spC_len (by decide)
  have hl2 := hy.count oC_len (by decide)
  have sv0 := chk_shop he
  rw [hl1, hl2] at sv0
  have ab := allN_bd sv0.ords.1
  have sv := Hold.mk (shop_turn dn sv0)
  refine Cr.ofD fun F hF hT => ?_
  subst hF
  have hop : Hold (∀ (h : Hp) (K : Value → Hp → Prop), (∀ gs po' co' pf cf h', (∀ y o, h.own y = some o → h'.own y = some o) → Hold (ShopR (h'.cell? F) gs (sgnA dn s0 s1) (sgnB dn s0 s1) (sgnA dn c0 c1) (sgnB dn c0 c1) pw nw cw po' no co' pf cf dn ws (ordT dn os)) → F.w0.heap.size ≤ gs → h.own gs = none → K (.tuple #[.pointer (some ⟨gs, 0, none⟩), .int .i64 0]) h') → DCall Try.prog F 63 #[.agg #[.bool dn, .int .i64 s0, .int .i64 s1, .int .i64 c0, .int .i64 c1, .slice pw nw cw], .slice po no co] h K) := ⟨fun h K hK => open_K F h K dn s0 s1 c0 c1 pw nw cw ws po no co os (hx.mono fun a u e => Hp.cell_ro e) hb (hy.mono fun a u e => Hp.cell_ro e) hb' he hK⟩
  have ha : Hold (∀ ro gs po' co' pf cf, ShopR ro gs (sgnA dn s0 s1) (sgnB dn s0 s1) (sgnA dn c0 c1) (sgnB dn c0 c1) pw nw cw po' no co' pf cf dn ws (ordT dn os) → Cr Try.prog 64 #[.pointer (some ⟨gs, 0, none⟩)] ro (.int .i64 (allN os))) := ⟨fun ro gs po' co' pf cf h => by rw [← ordT_all dn os]; exact allN_ok ro gs _ _ _ _ pw nw cw po' no co' pf cf dn ws (ordT dn os) h sv⟩
  clear hl1 hl2 sv0 hx hy he
  have hb1 : (decide (0 ≤ fr) && decide (fr ≤ (allN os : Int) - 1)) = false := by
    rw [Bool.eq_false_iff]
    simp only [ne_eq, Bool.and_eq_true, decide_eq_true_eq]
    omega
  have w1 : IntKind.i64.wrap ((allN os : Int) - 1) = (allN os : Int) - 1 := IntWalk.i64_in _ (by omega)
  clear hr sv ab
  generalize allN os = a at *
  (refine DCall.inlP (l := _) Try.func25 Try.ntmps25 rfl rfl (by simp only [seval, List.length_cons, List.length_nil]) (by simp only [seval, List.length_cons, List.length_nil]) ?_; simp only [Try.results25, List.map_cons, List.map_nil])
  repeat' (first | (with_reducible refine at_seq (by with_unfolding_all exact rfl) ?_) | ((with_reducible first | refine at_plain (by with_unfolding_all exact rfl) ?_ | refine at_cond (by with_unfolding_all exact rfl) ?_ | refine at_exit (by with_unfolding_all exact rfl) ?_ | refine at_ret (by with_unfolding_all exact rfl) ?_ | refine at_skip (by with_unfolding_all exact rfl) ?_ | refine at_label (by with_unfolding_all exact rfl) ?_) <;> try simp -implicitDefEqProofs (maxSteps := 1000000) only [go_sem, seval, *]) | (with_reducible first | refine at_block (by with_unfolding_all exact rfl) ?_ | refine at_loop (by with_unfolding_all exact rfl) ?_) | ((first | ((with_reducible refine NewK.intro fun g hg hn => ?_) <;> try simp only [own_none_iff] at hn) | ((with_reducible first | refine GuardB.split (fun hc => ?_) (fun hc => ?_) | refine CondK.split (fun hc => ?_) (fun hc => ?_) | refine PickK.split (fun hc => ?_) (fun hc => ?_) | refine GuardD.split (fun hc => ?_) (fun hc => ?_)) <;> (have hc2 := hc; try simp only [beq_eq_false_iff_ne, beq_iff_eq, ne_eq, bne_iff_ne, bne_eq_false_iff_eq, decide_eq_true_eq, decide_eq_false_iff_not, Bool.not_true, Bool.not_false, Int.not_le, Int.not_lt] at hc2)) | (with_reducible first | refine dop_buildSlice ?_ | refine dop_build ?_)) <;> simp -implicitDefEqProofs (maxSteps := 1000000) only [go_sem, seval, *]))
  refine hop.out _ _ fun gs po' co' pf cf h' f1 hS f3 f4 => ?_
  clear f1 hop
  simp -implicitDefEqProofs (maxSteps := 1000000) only [go_sem, seval, *]
  repeat' (first | (with_reducible refine at_seq (by with_unfolding_all exact rfl) ?_) | ((with_reducible first | refine at_plain (by with_unfolding_all exact rfl) ?_ | refine at_cond (by with_unfolding_all exact rfl) ?_ | refine at_exit (by with_unfolding_all exact rfl) ?_ | refine at_ret (by with_unfolding_all exact rfl) ?_ | refine at_skip (by with_unfolding_all exact rfl) ?_ | refine at_label (by with_unfolding_all exact rfl) ?_) <;> try simp -implicitDefEqProofs (maxSteps := 1000000) only [go_sem, seval, *]) | (with_reducible first | refine at_block (by with_unfolding_all exact rfl) ?_ | refine at_loop (by with_unfolding_all exact rfl) ?_) | ((first | ((with_reducible refine NewK.intro fun g hg hn => ?_) <;> try simp only [own_none_iff] at hn) | ((with_reducible first | refine GuardB.split (fun hc => ?_) (fun hc => ?_) | refine CondK.split (fun hc => ?_) (fun hc => ?_) | refine PickK.split (fun hc => ?_) (fun hc => ?_) | refine GuardD.split (fun hc => ?_) (fun hc => ?_)) <;> (have hc2 := hc; try simp only [beq_eq_false_iff_ne, beq_iff_eq, ne_eq, bne_iff_ne, bne_eq_false_iff_eq, decide_eq_true_eq, decide_eq_false_iff_not, Bool.not_true, Bool.not_false, Int.not_le, Int.not_lt] at hc2)) | (with_reducible first | refine dop_buildSlice ?_ | refine dop_build ?_) | ((with_reducible refine Cr.call (f := 64) (ha.out _ _ _ _ _ _ hS.out) ?_)) | (with_reducible refine CallV.of (f := 64) (ha.out _ _ _ _ _ _ hS.out) ni64 ?_) | ((with_reducible refine Cr.call (f := 60) (withinB_ok _ _ _ _ _ _ _ (by simp -implicitDefEqProofs (maxSteps := 1000000) only [go_sem, seval, *]) ⟨by decide⟩) ?_)) | (with_reducible refine CallV.of (f := 60) (withinB_ok _ _ _ _ _ _ _ (by simp -implicitDefEqProofs (maxSteps := 1000000) only [go_sem, seval, *]) ⟨by decide⟩) ni60 ?_)) <;> simp -implicitDefEqProofs (maxSteps := 1000000) only [go_sem, seval, *]))
set_option maxHeartbeats 4000000 in
theorem Reach_K (ro : Addr → Option Value) (dn : Bool) (s0 s1 c0 c1 : Int) (pw : Option Addr) (nw cw : Nat) (ws : List (Int × Int)) (po : Option Addr) (no co : Nat) (os : List Ord) (fr : Nat) (hx : RdS ro pw nw 2 (ws.flatMap spC)) (hb : Hold (nw < 9223372036854775808)) (hy : RdS ro po no 4 (os.flatMap oC)) (hb' : Hold (no < 9223372036854775808)) (he : chkV s0 s1 c0 c1 ws os = 0) (hr : fr < allN os) :
    Cr Try.prog 25 #[.agg #[.bool dn, .int .i64 s0, .int .i64 s1, .int .i64 c0, .int .i64 c1, .slice pw nw cw], .slice po no co, .int .i64 fr] ro (.tuple #[.int .i64 (reachV (sgnA dn s0 s1) (sgnB dn s0 s1) (sgnA dn c0 c1) (sgnB dn c0 c1) ws (ordT dn os) fr), .int .i64 0]) := by
  have hl1 := hx.count spC_len (by decide)
  have hl2 := hy.count oC_len (by decide)
  have sv0 := chk_shop he
  rw [hl1, hl2] at sv0
  have ab := allN_bd sv0.ords.1
  have sv := Hold.mk (shop_turn dn sv0)
  refine Cr.ofD fun F hF hT => ?_
  subst hF
  have hop : Hold (∀ (h : Hp) (K : Value → Hp → Prop), (∀ gs po' co' pf cf h', (∀ y o, h.own y = some o → h'.own y = some o) → Hold (ShopR (h'.cell? F) gs (sgnA dn s0 s1) (sgnB dn s0 s1) (sgnA dn c0 c1) (sgnB dn c0 c1) pw nw cw po' no co' pf cf dn ws (ordT dn os)) → F.w0.heap.size ≤ gs → h.own gs = none → K (.tuple #[.pointer (some ⟨gs, 0, none⟩), .int .i64 0]) h') → DCall Try.prog F 63 #[.agg #[.bool dn, .int .i64 s0, .int .i64 s1, .int .i64 c0, .int .i64 c1, .slice pw nw cw], .slice po no co] h K) := ⟨fun h K hK => open_K F h K dn s0 s1 c0 c1 pw nw cw ws po no co os (hx.mono fun a u e => Hp.cell_ro e) hb (hy.mono fun a u e => Hp.cell_ro e) hb' he hK⟩
  have ha : Hold (∀ ro gs po' co' pf cf, ShopR ro gs (sgnA dn s0 s1) (sgnB dn s0 s1) (sgnA dn c0 c1) (sgnB dn c0 c1) pw nw cw po' no co' pf cf dn ws (ordT dn os) → Cr Try.prog 64 #[.pointer (some ⟨gs, 0, none⟩)] ro (.int .i64 (allN os))) := ⟨fun ro gs po' co' pf cf h => by rw [← ordT_all dn os]; exact allN_ok ro gs _ _ _ _ pw nw cw po' no co' pf cf dn ws (ordT dn os) h sv⟩
  clear hl1 hl2 sv0 hx hy he
  have hb1 : (decide (0 ≤ (fr : Int)) && decide ((fr : Int) ≤ (allN os : Int) - 1)) = true := by
    simp only [Bool.and_eq_true, decide_eq_true_eq]
    omega
  have w1 : IntKind.i64.wrap ((allN os : Int) - 1) = (allN os : Int) - 1 := IntWalk.i64_in _ (by omega)
  have hw : Hold (∀ ro gs po' co' pf cf, ShopR ro gs (sgnA dn s0 s1) (sgnB dn s0 s1) (sgnA dn c0 c1) (sgnB dn c0 c1) pw nw cw po' no co' pf cf dn ws (ordT dn os) → Cr Try.prog 71 #[.pointer (some ⟨gs, 0, none⟩), .int .i64 fr] ro (.int .i64 (reachV (sgnA dn s0 s1) (sgnB dn s0 s1) (sgnA dn c0 c1) (sgnB dn c0 c1) ws (ordT dn os) fr))) := ⟨fun ro gs po' co' pf cf h => reach_ok ro gs _ _ _ _ pw nw cw po' no co' pf cf dn ws (ordT dn os) fr h sv (by rw [ordT_all]; omega)⟩
  generalize reachV (sgnA dn s0 s1) (sgnB dn s0 s1) (sgnA dn c0 c1) (sgnB dn c0 c1) ws (ordT dn os) fr = v at *
  clear hr sv ab
  generalize allN os = a at *
  (refine DCall.inlP (l := _) Try.func25 Try.ntmps25 rfl rfl (by simp only [seval, List.length_cons, List.length_nil]) (by simp only [seval, List.length_cons, List.length_nil]) ?_; simp only [Try.results25, List.map_cons, List.map_nil])
  repeat' (first | (with_reducible refine at_seq (by with_unfolding_all exact rfl) ?_) | ((with_reducible first | refine at_plain (by with_unfolding_all exact rfl) ?_ | refine at_cond (by with_unfolding_all exact rfl) ?_ | refine at_exit (by with_unfolding_all exact rfl) ?_ | refine at_ret (by with_unfolding_all exact rfl) ?_ | refine at_skip (by with_unfolding_all exact rfl) ?_ | refine at_label (by with_unfolding_all exact rfl) ?_) <;> try simp -implicitDefEqProofs (maxSteps := 1000000) only [go_sem, seval, *]) | (with_reducible first | refine at_block (by with_unfolding_all exact rfl) ?_ | refine at_loop (by with_unfolding_all exact rfl) ?_) | ((first | ((with_reducible refine NewK.intro fun g hg hn => ?_) <;> try simp only [own_none_iff] at hn) | ((with_reducible first | refine GuardB.split (fun hc => ?_) (fun hc => ?_) | refine CondK.split (fun hc => ?_) (fun hc => ?_) | refine PickK.split (fun hc => ?_) (fun hc => ?_) | refine GuardD.split (fun hc => ?_) (fun hc => ?_)) <;> (have hc2 := hc; try simp only [beq_eq_false_iff_ne, beq_iff_eq, ne_eq, bne_iff_ne, bne_eq_false_iff_eq, decide_eq_true_eq, decide_eq_false_iff_not, Bool.not_true, Bool.not_false, Int.not_le, Int.not_lt] at hc2)) | (with_reducible first | refine dop_buildSlice ?_ | refine dop_build ?_)) <;> simp -implicitDefEqProofs (maxSteps := 1000000) only [go_sem, seval, *]))
  refine hop.out _ _ fun gs po' co' pf cf h' f1 hS f3 f4 => ?_
  clear f1 hop
  simp -implicitDefEqProofs (maxSteps := 1000000) only [go_sem, seval, *]
  repeat' (first | (with_reducible refine at_seq (by with_unfolding_all exact rfl) ?_) | ((with_reducible first | refine at_plain (by with_unfolding_all exact rfl) ?_ | refine at_cond (by with_unfolding_all exact rfl) ?_ | refine at_exit (by with_unfolding_all exact rfl) ?_ | refine at_ret (by with_unfolding_all exact rfl) ?_ | refine at_skip (by with_unfolding_all exact rfl) ?_ | refine at_label (by with_unfolding_all exact rfl) ?_) <;> try simp -implicitDefEqProofs (maxSteps := 1000000) only [go_sem, seval, *]) | (with_reducible first | refine at_block (by with_unfolding_all exact rfl) ?_ | refine at_loop (by with_unfolding_all exact rfl) ?_) | ((first | ((with_reducible refine NewK.intro fun g hg hn => ?_) <;> try simp only [own_none_iff] at hn) | ((with_reducible first | refine GuardB.split (fun hc => ?_) (fun hc => ?_) | refine CondK.split (fun hc => ?_) (fun hc => ?_) | refine PickK.split (fun hc => ?_) (fun hc => ?_) | refine GuardD.split (fun hc => ?_) (fun hc => ?_)) <;> (have hc2 := hc; try simp only [beq_eq_false_iff_ne, beq_iff_eq, ne_eq, bne_iff_ne, bne_eq_false_iff_eq, decide_eq_true_eq, decide_eq_false_iff_not, Bool.not_true, Bool.not_false, Int.not_le, Int.not_lt] at hc2)) | (with_reducible first | refine dop_buildSlice ?_ | refine dop_build ?_) | ((with_reducible refine Cr.call (f := 64) (ha.out _ _ _ _ _ _ hS.out) ?_)) | (with_reducible refine CallV.of (f := 64) (ha.out _ _ _ _ _ _ hS.out) ni64 ?_) | ((with_reducible refine Cr.call (f := 60) (withinB_ok _ _ _ _ _ _ _ (by simp -implicitDefEqProofs (maxSteps := 1000000) only [go_sem, seval, *]) ⟨by decide⟩) ?_)) | (with_reducible refine CallV.of (f := 60) (withinB_ok _ _ _ _ _ _ _ (by simp -implicitDefEqProofs (maxSteps := 1000000) only [go_sem, seval, *]) ⟨by decide⟩) ni60 ?_) | ((with_reducible refine Cr.call (f := 71) (hw.out _ _ _ _ _ _ (hS.out.mono fun a u e => sub_cell (sub_setN (by assumption)) e)) ?_)) | (with_reducible refine CallV.of (f := 71) (hw.out _ _ _ _ _ _ (hS.out.mono fun a u e => sub_cell (sub_setN (by assumption)) e)) ni71 ?_)) <;> simp -implicitDefEqProofs (maxSteps := 1000000) only [go_sem, seval, *]))

end Go.Proofs.Ytlbpfmnobapidaa
