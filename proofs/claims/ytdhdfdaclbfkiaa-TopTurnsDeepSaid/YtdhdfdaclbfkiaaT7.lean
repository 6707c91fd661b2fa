/-
  Walks. Conditions: none.
-/
import Derived.Test.YtdhdfdaclbfkiaaT6
set_option linter.unusedVariables false
set_option linter.unusedSimpArgs false
namespace Go.Proofs.Ytdhdfdaclbfkiaa
open Go.RowKit Go.SL
set_option maxHeartbeats 1000000
set_option maxRecDepth 1000000
attribute [local go_sem] fl_getD fl_get fl_set lk_def st_def gL_nil gL_zero gL_succ sL_nil_zero sL_nil_succ sL_zero sL_succ Option.getD_none FgK_app onlyL_nil onlyL_none onlyL_some setO_some toB_bool toB_undef yl_def
attribute [local go_sem high] GuardK_yl GuardL_yl
attribute [local go_sem] initL_one initL_cons lastL_one lastL_cons LastK_app fin_round Fr.inr_w0 Fr.inr_ro Fr.inr_M cell_inr LoopO_some YieldK_some RoundQ_normal RoundQ_ret RoundQ_exit EndR_none EndR_some BegK_app BegR_some OutR_none OutR_ret OutR_exit LeftR_some LeftK_app
attribute [local go_sem] i64w
attribute [local go_sem] add_none
def maxL : List Int → Int
  | [] => 0
  | x :: r => r.foldl max x
def IMax (n b off c : Nat) (y : Int) (r : List Int) (k : Nat) (a : Act) (h : Hp) : Prop :=
  ∃ (i : Nat), Hold (i + k = n) ∧ Hold (1 ≤ i) ∧ h = Hp.none_ ∧ a = (fun x : Nat → Value => (⟨#[.slice (some ⟨b, off, none⟩) n c, x 1, x 2, .int .i64 ((r.take (i - 1)).foldl max y), .int .i64 i, x 5, x 6, x 7, x 8, x 9, x 10, x 11, x 12, x 13, x 14, x 15, x 16, x 17, x 18, x 19, x 20, x 21, x 22, x 23, x 24], []⟩ : Act)) (fun i => a.tmps.getD i undef)
theorem max_ok (ro : Addr → Option Value) (b off n c : Nat) (y : Int) (r : List Int) (hx : Hold (readI ro b off n = some (y :: r))) (hn : Hold (n < 2 ^ 63)) :
    Cr Try.prog 111 #[.slice (some ⟨b, off, none⟩) n c] ro (.int .i64 (maxL (y :: r))) := by
  have hlen : r.length + 1 = n := by simpa using readI_len hx.out
  have c1 : ((n : Int) < 1) = False := by simp; omega
  have c2 : (0 : Int) < (n : Int) := by omega
  have r0 : ro ⟨b, off, none⟩ = some (.int .i64 y) := by have := readI_get hx.out 0 y rfl; simpa using this
  (refine Cr.of Try.func111 rfl rfl (fun F hF => ?_); simp only [Try.ntmps111, Try.results111, List.size_toArray, List.length_cons, List.length_nil, Nat.reduceAdd, Nat.reduceSub, Array.replicate_succ, Array.replicate_zero, List.push_toArray, List.append_toArray, List.nil_append, List.cons_append]; simp -implicitDefEqProofs (maxSteps := 1000000) only [go_sem, seval])
  subst hF
  simp -implicitDefEqProofs (maxSteps := 1000000) only [go_sem, seval, c1, c2, r0]
  refine DLoop.ind (IMax n b off c y r) (n - 1) ⟨1, ⟨by omega⟩, ⟨by omega⟩, rfl, (by kernel_rfl)⟩ ?_
  (rintro k a h ⟨i, fa0, fa1, rfl, ha⟩; generalize (fun i => Array.getD a.tmps i undef) = x at ha; dsimp only at ha; subst ha)
  simp -implicitDefEqProofs (maxSteps := 1000000) only [go_sem, seval, *]
  refine CondK.split (fun hc => ?_) (fun hc => ?_)
  · have hlt : i < n := by simpa using hc
    have f0' := fa0.out
    have f1' := fa1.out
    have h0 : (0 : Int) ≤ (i : Int) := by omega
    have h1 : (i : Int) < (n : Int) := by omega
    obtain ⟨z, hz⟩ : ∃ z, r[i - 1]? = some z := ⟨_, List.getElem?_eq_getElem (by omega)⟩
    have hro := readI_get hx.out i z (by rw [← hz]; rw [show i = (i - 1) + 1 by omega]; simp)
    simp -implicitDefEqProofs (maxSteps := 1000000) only [go_sem, seval, hc, h0, h1, hro]
    have hw : IntKind.i64.wrap ((i : Int) + 1) = ((i + 1 : Nat) : Int) := by
      have := hn.out
      rw [IntWalk.i64_in _ (by omega)]; push_cast; rfl
    have ht : max ((r.take (i - 1)).foldl max y) z = (r.take (i + 1 - 1)).foldl max y := by
      rw [show i + 1 - 1 = (i - 1) + 1 by omega, List.take_add_one, List.foldl_append, hz]; rfl
    rw [hw, ht]
    exact LoopK.intro (k - 1) (by omega) ⟨i + 1, ⟨by omega⟩, ⟨by omega⟩, rfl, (by kernel_rfl)⟩
  · have hge : n ≤ i := by simpa using hc
    have f0' := fa0.out
    simp -implicitDefEqProofs (maxSteps := 1000000) only [go_sem, seval, hc]
    rw [List.take_of_length_le (by omega)]
    rfl
/-- How far the flanks of a turn are from those of the perfect thread. -/
def flL (p : Int) (x : Int × Int) (k : Nat) : Int := 1000 * (4 * x.1 - 4 * (k : Int) * p + p)
def flR (p : Int) (x : Int × Int) (k : Nat) : Int := 1000 * (4 * x.2 - 4 * (k : Int) * p - p)
def IFl (n b c b1 b2 L : Nat) (I : Nat → Hp → Prop) (k' : Nat) (a : Act) (h : Hp) : Prop :=
  ∃ (j : Nat) (x : Nat → Value), Hold (j + k' = n) ∧ Hold (I j h) ∧ a = ⟨fl 45 x [[some (.func (.yield L) #[] #[]), some (.pointer (some ⟨b1, 0, none⟩)), some (.pointer (some ⟨b2, 0, none⟩)), none, none, none, none, none, some (.slice (some ⟨b, 0, none⟩) n c), some (.int .i64 n), some (.int .i64 j)]], []⟩
set_option maxHeartbeats 8000000 in
theorem flanks_D (F : Fr) (h : Hp) (K : Value → Hp → Prop) (n b c b1 b2 L : Nat) (p l r ua ub us ut tl tr lo hi : Int) (lh : Bool) (TL : List (Int × Int)) (S : Hp) (I : Nat → Hp → Prop)
    (hN : Hold (n ≤ 60 ∧ TL.length = n)) (hA : Hold (∀ x ∈ TL, (-10000000 ≤ x.1 ∧ x.1 ≤ 10000000) ∧ -10000000 ≤ x.2 ∧ x.2 ≤ 10000000)) (hp : Hold (0 ≤ p ∧ p ≤ 200000))
    (s1 : S.own b1 = some (.cells #[.slice (some ⟨b, 0, none⟩) n c, .int .i64 tl, .int .i64 tr] 67)) (s2 : S.own b2 = some (.cells #[.int .i64 p, .int .i64 l, .int .i64 r, .int .i64 ua, .int .i64 ub, .int .i64 us, .bool lh, .int .i64 ut, .int .i64 lo, .int .i64 hi] 132))
    (hrd : Hold (readV (S.cell? F) b 0 (n * 2) = some (TL.flatMap tnC))) (z1 : F.w0.heap.size ≤ b1) (z2 : F.w0.heap.size ≤ b2)
    (hI : Hold (∀ j h, I j h → (∀ g o, S.own g = some o → h.own g = some o) ∧ ∃ r, h.own L = some (.loop r) ∧ r.params.size = 2))
    (hS : Hold (∀ j h g o, I j h → h.own g = none → I j (h.set g o)))
    (hR : Hold (∀ j h (K : Value → Hp → Prop) x, TL[j]? = some x → I j h → (∀ h', I (j + 1) h' → K (.bool true) h') → ∀ r, h.own L = some (.loop r) →
      DRound Try.prog F L r.fn ((r.params.zip #[.int .i64 (flL p x j), .int .i64 (flR p x j)]).foldl (fun tmps (t, a) => tmps.setIfInBounds t a) r.tmps) r.assign r.body h K))
    (h0 : I 0 h) (hK : Hold (∀ h', I n h' → K (.tuple #[]) h')) :
    DCall Try.prog F 137 #[.func (.yield L) #[] #[], .pointer (some ⟨b1, 0, none⟩), .pointer (some ⟨b2, 0, none⟩)] h K := by
  have u1 := (hI.out 0 h h0).1 _ _ s1
  (refine DCall.inlP (l := _) Try.func137 Try.ntmps137 rfl rfl (by simp only [seval, List.length_cons, List.length_nil]) (by simp only [seval, List.length_cons, List.length_nil]) ?_; simp only [Try.results137, List.map_cons, List.map_nil])
  repeat' (first | (with_reducible refine at_seq (by with_unfolding_all exact rfl) ?_) | ((first | (with_reducible refine at_plain (by with_unfolding_all exact rfl) ?_) | (with_reducible refine at_draw (by with_unfolding_all exact rfl) ?_) | (with_reducible refine at_cond (by with_unfolding_all exact rfl) ?_) | (with_reducible refine at_exit (by with_unfolding_all exact rfl) ?_) | (with_reducible refine at_ret (by with_unfolding_all exact rfl) ?_) | (with_reducible refine at_skip (by with_unfolding_all exact rfl) ?_) | (with_reducible refine at_label (by with_unfolding_all exact rfl) ?_)) <;> try simp -implicitDefEqProofs (maxSteps := 1000000) only [go_sem, seval, *]) | (with_reducible refine at_block (by with_unfolding_all exact rfl) ?_) | (with_reducible refine at_loop (by with_unfolding_all exact rfl) ?_) | ((first | ((with_reducible refine NewK.intro fun g hg hn => ?_) <;> try simp only [own_none_iff] at hn) | ((with_reducible refine GuardB.split (fun hc => ?_) (fun hc => ?_)) <;> (have hc2 := hc; try simp only [beq_eq_false_iff_ne, beq_iff_eq, ne_eq, bne_iff_ne, bne_eq_false_iff_eq, decide_eq_true_eq, decide_eq_false_iff_not, Bool.not_true, Bool.not_false, Int.not_le, Int.not_lt] at hc2)) | ((with_reducible refine CondK.split (fun hc => ?_) (fun hc => ?_)) <;> (have hc2 := hc; try simp only [beq_eq_false_iff_ne, beq_iff_eq, ne_eq, bne_iff_ne, bne_eq_false_iff_eq, decide_eq_true_eq, decide_eq_false_iff_not, Bool.not_true, Bool.not_false, Int.not_le, Int.not_lt] at hc2)) | ((with_reducible refine PickK.split (fun hc => ?_) (fun hc => ?_)) <;> (have hc2 := hc; try simp only [beq_eq_false_iff_ne, beq_iff_eq, ne_eq, bne_iff_ne, bne_eq_false_iff_eq, decide_eq_true_eq, decide_eq_false_iff_not, Bool.not_true, Bool.not_false, Int.not_le, Int.not_lt] at hc2)) | (with_reducible refine dop_buildSlice ?_) | (with_reducible refine dop_build ?_) | ((with_reducible refine GuardD.split (fun hc => ?_) (fun hc => ?_)) <;> (have hc2 := hc; try simp only [beq_eq_false_iff_ne, beq_iff_eq, ne_eq, bne_iff_ne, bne_eq_false_iff_eq, decide_eq_true_eq, decide_eq_false_iff_not, Bool.not_true, Bool.not_false, Int.not_le, Int.not_lt] at hc2)) | (with_reducible refine stp_build ?_) | (with_reducible refine stp_buildSlice ?_) | (with_reducible refine stp_store ?_) | (with_reducible refine stp_ns ?_) | (with_reducible refine NsB.intro (fun h' ho K' hk => by simp -implicitDefEqProofs (maxSteps := 1000000) only [go_sem, seval, *] <;> exact hk) ?_) | (with_reducible refine WrB.intro _ (by simp -implicitDefEqProofs (maxSteps := 1000000) only [go_sem, seval, *]) (fun h' ho K' hk => by simp -implicitDefEqProofs (maxSteps := 1000000) only [go_sem, seval, *]; exact hk) (fun h' ho K' hk => by simp -implicitDefEqProofs (maxSteps := 1000000) only [go_sem, seval, *] at hk; exact hk) (fun h' ho hk => by simp -implicitDefEqProofs (maxSteps := 1000000) only [go_sem, seval, *] at hk <;> with_unfolding_all exact False.elim hk) ?_) | (with_reducible refine WrB.intro _ (by simp -implicitDefEqProofs (maxSteps := 1000000) only [go_sem, seval, *]) (fun h' ho K' hk => by simp -implicitDefEqProofs (maxSteps := 1000000) only [go_sem, seval, *]; exact hk) ?_) | ((with_reducible refine DDraw.auto mo ?_ ?_); kernel_rfl)) <;> simp -implicitDefEqProofs (maxSteps := 1000000) only [go_sem, seval, *]) | (with_reducible refine bi_same ?_))
  clear u1
  refine DLoop.ind (IFl n b c b1 b2 L I) n ⟨0, _, ⟨by omega⟩, ⟨h0⟩, fl_re (by kernel_rfl)⟩ ?_
  clear h0
  (rintro k' a h ⟨j, x, fa0, fa1, rfl⟩)
  have hij := hI.out j h fa1.out
  have u1 := hij.1 _ _ s1
  have u2 := hij.1 _ _ s2
  have v1 := own_ne u1
  have v2 := own_ne u2
  have hj := fa0.out
  have c0 : (0 : Int) ≤ (j : Int) := by omega
  by_cases hlt : j < n
  · have c1 : ((j : Int) < (n : Int)) = True := by simp only [eq_iff_iff, iff_true]; omega
    have iw : IntKind.i64.wrap ((j : Int) + 1) = ((j + 1 : Nat) : Int) := by rw [IntWalk.i64_in _ (by have := hN.out; omega)]; push_cast; rfl
    obtain ⟨rr, hr1, hr2⟩ := hij.2
    have hlp : j < TL.length := by rw [hN.out.2]; exact hlt
    have hxi : TL[j]? = some TL[j] := List.getElem?_eq_getElem hlp
    have hro := readV_at (f := tnC) (s := 2) (fun p => rfl) hrd.out hxi
    have hm := hA.out _ (List.getElem_mem hlp)
    generalize TL[j] = x at *
    have q0 := sub_cell hij.1 (hro 0 _ rfl)
    have q1 := sub_cell hij.1 (hro 1 _ rfl)
    simp only [Nat.add_zero, Nat.zero_add] at q0 q1
    have pb := hp.out
    have nb := hN.out
    have m := mul_bd (a := 4 * (j : Int)) (b := p) (A := 240) (B := 200000) (by omega) (by omega) (by omega) (by omega)
    have e0 : IntKind.i64.wrap (4 * (j : Int)) = 4 * (j : Int) := IntWalk.i64_in _ (by omega)
    have e1 : IntKind.i64.wrap (4 * (j : Int) * p) = 4 * (j : Int) * p := IntWalk.i64_in _ (by omega)
    have e2 : IntKind.i64.wrap (4 * x.1) = 4 * x.1 := IntWalk.i64_in _ (by omega)
    have e3 : IntKind.i64.wrap (4 * x.1 - 4 * (j : Int) * p) = 4 * x.1 - 4 * (j : Int) * p := IntWalk.i64_in _ (by omega)
    have e4 : IntKind.i64.wrap (4 * x.1 - 4 * (j : Int) * p + p) = 4 * x.1 - 4 * (j : Int) * p + p := IntWalk.i64_in _ (by omega)
    have e5 : IntKind.i64.wrap (1000 * (4 * x.1 - 4 * (j : Int) * p + p)) = flL p x j := by unfold flL; exact IntWalk.i64_in _ (by omega)
    have e6 : IntKind.i64.wrap (4 * x.2) = 4 * x.2 := IntWalk.i64_in _ (by omega)
    have e7 : IntKind.i64.wrap (4 * x.2 - 4 * (j : Int) * p) = 4 * x.2 - 4 * (j : Int) * p := IntWalk.i64_in _ (by omega)
    have e8 : IntKind.i64.wrap (4 * x.2 - 4 * (j : Int) * p - p) = 4 * x.2 - 4 * (j : Int) * p - p := IntWalk.i64_in _ (by omega)
    have e9 : IntKind.i64.wrap (1000 * (4 * x.2 - 4 * (j : Int) * p - p)) = flR p x j := by unfold flR; exact IntWalk.i64_in _ (by omega)
    clear hro m hm pb nb hlp
    replace hxi := Hold.mk hxi
    replace hlt := Hold.mk hlt
    repeat' (first | (with_reducible refine at_seq (by with_unfolding_all exact rfl) ?_) | ((first | (with_reducible refine at_plain (by with_unfolding_all exact rfl) ?_) | (with_reducible refine at_draw (by with_unfolding_all exact rfl) ?_) | (with_reducible refine at_cond (by with_unfolding_all exact rfl) ?_) | (with_reducible refine at_exit (by with_unfolding_all exact rfl) ?_) | (with_reducible refine at_ret (by with_unfolding_all exact rfl) ?_) | (with_reducible refine at_skip (by with_unfolding_all exact rfl) ?_) | (with_reducible refine at_label (by with_unfolding_all exact rfl) ?_)) <;> try simp -implicitDefEqProofs (maxSteps := 1000000) only [go_sem, seval, *]) | (with_reducible refine at_block (by with_unfolding_all exact rfl) ?_) | (with_reducible refine at_loop (by with_unfolding_all exact rfl) ?_) | ((first | ((with_reducible refine NewK.intro fun g hg hn => ?_) <;> try simp only [own_none_iff] at hn) | ((with_reducible refine GuardB.split (fun hc => ?_) (fun hc => ?_)) <;> (have hc2 := hc; try simp only [beq_eq_false_iff_ne, beq_iff_eq, ne_eq, bne_iff_ne, bne_eq_false_iff_eq, decide_eq_true_eq, decide_eq_false_iff_not, Bool.not_true, Bool.not_false, Int.not_le, Int.not_lt] at hc2)) | ((with_reducible refine CondK.split (fun hc => ?_) (fun hc => ?_)) <;> (have hc2 := hc; try simp only [beq_eq_false_iff_ne, beq_iff_eq, ne_eq, bne_iff_ne, bne_eq_false_iff_eq, decide_eq_true_eq, decide_eq_false_iff_not, Bool.not_true, Bool.not_false, Int.not_le, Int.not_lt] at hc2)) | ((with_reducible refine PickK.split (fun hc => ?_) (fun hc => ?_)) <;> (have hc2 := hc; try simp only [beq_eq_false_iff_ne, beq_iff_eq, ne_eq, bne_iff_ne, bne_eq_false_iff_eq, decide_eq_true_eq, decide_eq_false_iff_not, Bool.not_true, Bool.not_false, Int.not_le, Int.not_lt] at hc2)) | (with_reducible refine dop_buildSlice ?_) | (with_reducible refine dop_build ?_) | ((with_reducible refine GuardD.split (fun hc => ?_) (fun hc => ?_)) <;> (have hc2 := hc; try simp only [beq_eq_false_iff_ne, beq_iff_eq, ne_eq, bne_iff_ne, bne_eq_false_iff_eq, decide_eq_true_eq, decide_eq_false_iff_not, Bool.not_true, Bool.not_false, Int.not_le, Int.not_lt] at hc2)) | (with_reducible refine stp_build ?_) | (with_reducible refine stp_buildSlice ?_) | (with_reducible refine stp_store ?_) | (with_reducible refine stp_ns ?_) | (with_reducible refine NsB.intro (fun h' ho K' hk => by simp -implicitDefEqProofs (maxSteps := 1000000) only [go_sem, seval, *] <;> exact hk) ?_) | (with_reducible refine WrB.intro _ (by simp -implicitDefEqProofs (maxSteps := 1000000) only [go_sem, seval, *]) (fun h' ho K' hk => by simp -implicitDefEqProofs (maxSteps := 1000000) only [go_sem, seval, *]; exact hk) (fun h' ho K' hk => by simp -implicitDefEqProofs (maxSteps := 1000000) only [go_sem, seval, *] at hk; exact hk) (fun h' ho hk => by simp -implicitDefEqProofs (maxSteps := 1000000) only [go_sem, seval, *] at hk <;> with_unfolding_all exact False.elim hk) ?_) | (with_reducible refine WrB.intro _ (by simp -implicitDefEqProofs (maxSteps := 1000000) only [go_sem, seval, *]) (fun h' ho K' hk => by simp -implicitDefEqProofs (maxSteps := 1000000) only [go_sem, seval, *]; exact hk) ?_) | ((with_reducible refine DDraw.auto mo ?_ ?_); kernel_rfl)) <;> simp -implicitDefEqProofs (maxSteps := 1000000) only [go_sem, seval, *]) | (with_reducible refine bi_same ?_))
    have dL : L ≠ g := by rintro rfl; rw [hr1] at hn; cases hn
    have oL : ∀ ob, (h.set g ob).own L = some (.loop rr) := fun ob => by rw [Hp.own_set, if_neg dL, hr1]
    refine dwp_yield ?_
    rw [oL]
    refine ⟨by rw [hr2]; rfl, hR.out j _ _ x hxi.out (hS.out j h g _ fa1.out hn) (fun h' hI' => ?_) rr (oL _)⟩
    clear fa1 hij u1 u2 v1 v2 hr1 oL dL q0 q1 hn hr2 e0 e1 e2 e3 e4 e5 e6 e7 e8 e9
    replace hI' := Hold.mk hI'
    simp -implicitDefEqProofs (maxSteps := 1000000) only [go_sem, seval, *]
    repeat' (first | (with_reducible refine at_seq (by with_unfolding_all exact rfl) ?_) | ((first | (with_reducible refine at_plain (by with_unfolding_all exact rfl) ?_) | (with_reducible refine at_draw (by with_unfolding_all exact rfl) ?_) | (with_reducible refine at_cond (by with_unfolding_all exact rfl) ?_) | (with_reducible refine at_exit (by with_unfolding_all exact rfl) ?_) | (with_reducible refine at_ret (by with_unfolding_all exact rfl) ?_) | (with_reducible refine at_skip (by with_unfolding_all exact rfl) ?_) | (with_reducible refine at_label (by with_unfolding_all exact rfl) ?_)) <;> try simp -implicitDefEqProofs (maxSteps := 1000000) only [go_sem, seval, *]) | (with_reducible refine at_block (by with_unfolding_all exact rfl) ?_) | (with_reducible refine at_loop (by with_unfolding_all exact rfl) ?_) | ((first | ((with_reducible refine NewK.intro fun g hg hn => ?_) <;> try simp only [own_none_iff] at hn) | ((with_reducible refine GuardB.split (fun hc => ?_) (fun hc => ?_)) <;> (have hc2 := hc; try simp only [beq_eq_false_iff_ne, beq_iff_eq, ne_eq, bne_iff_ne, bne_eq_false_iff_eq, decide_eq_true_eq, decide_eq_false_iff_not, Bool.not_true, Bool.not_false, Int.not_le, Int.not_lt] at hc2)) | ((with_reducible refine CondK.split (fun hc => ?_) (fun hc => ?_)) <;> (have hc2 := hc; try simp only [beq_eq_false_iff_ne, beq_iff_eq, ne_eq, bne_iff_ne, bne_eq_false_iff_eq, decide_eq_true_eq, decide_eq_false_iff_not, Bool.not_true, Bool.not_false, Int.not_le, Int.not_lt] at hc2)) | ((with_reducible refine PickK.split (fun hc => ?_) (fun hc => ?_)) <;> (have hc2 := hc; try simp only [beq_eq_false_iff_ne, beq_iff_eq, ne_eq, bne_iff_ne, bne_eq_false_iff_eq, decide_eq_true_eq, decide_eq_false_iff_not, Bool.not_true, Bool.not_false, Int.not_le, Int.not_lt] at hc2)) | (with_reducible refine dop_buildSlice ?_) | (with_reducible refine dop_build ?_) | ((with_reducible refine GuardD.split (fun hc => ?_) (fun hc => ?_)) <;> (have hc2 := hc; try simp only [beq_eq_false_iff_ne, beq_iff_eq, ne_eq, bne_iff_ne, bne_eq_false_iff_eq, decide_eq_true_eq, decide_eq_false_iff_not, Bool.not_true, Bool.not_false, Int.not_le, Int.not_lt] at hc2)) | (with_reducible refine stp_build ?_) | (with_reducible refine stp_buildSlice ?_) | (with_reducible refine stp_store ?_) | (with_reducible refine stp_ns ?_) | (with_reducible refine NsB.intro (fun h' ho K' hk => by simp -implicitDefEqProofs (maxSteps := 1000000) only [go_sem, seval, *] <;> exact hk) ?_) | (with_reducible refine WrB.intro _ (by simp -implicitDefEqProofs (maxSteps := 1000000) only [go_sem, seval, *]) (fun h' ho K' hk => by simp -implicitDefEqProofs (maxSteps := 1000000) only [go_sem, seval, *]; exact hk) (fun h' ho K' hk => by simp -implicitDefEqProofs (maxSteps := 1000000) only [go_sem, seval, *] at hk; exact hk) (fun h' ho hk => by simp -implicitDefEqProofs (maxSteps := 1000000) only [go_sem, seval, *] at hk <;> with_unfolding_all exact False.elim hk) ?_) | (with_reducible refine WrB.intro _ (by simp -implicitDefEqProofs (maxSteps := 1000000) only [go_sem, seval, *]) (fun h' ho K' hk => by simp -implicitDefEqProofs (maxSteps := 1000000) only [go_sem, seval, *]; exact hk) ?_) | ((with_reducible refine DDraw.auto mo ?_ ?_); kernel_rfl)) <;> simp -implicitDefEqProofs (maxSteps := 1000000) only [go_sem, seval, *]) | (with_reducible refine bi_same ?_))
    have hlt := hlt.out
    exact LoopK.intro (k' - 1) (by omega) ⟨j + 1, _, ⟨by omega⟩, hI', fl_re (by kernel_rfl)⟩
  · have c1 : ((j : Int) < (n : Int)) = False := by simp only [eq_iff_iff, iff_false]; omega
    have hjn : n = j := by omega
    subst hjn
    clear hlt hj c0
    repeat' (first | (with_reducible refine at_seq (by with_unfolding_all exact rfl) ?_) | ((first | (with_reducible refine at_plain (by with_unfolding_all exact rfl) ?_) | (with_reducible refine at_draw (by with_unfolding_all exact rfl) ?_) | (with_reducible refine at_cond (by with_unfolding_all exact rfl) ?_) | (with_reducible refine at_exit (by with_unfolding_all exact rfl) ?_) | (with_reducible refine at_ret (by with_unfolding_all exact rfl) ?_) | (with_reducible refine at_skip (by with_unfolding_all exact rfl) ?_) | (with_reducible refine at_label (by with_unfolding_all exact rfl) ?_)) <;> try simp -implicitDefEqProofs (maxSteps := 1000000) only [go_sem, seval, *]) | (with_reducible refine at_block (by with_unfolding_all exact rfl) ?_) | (with_reducible refine at_loop (by with_unfolding_all exact rfl) ?_) | ((first | ((with_reducible refine NewK.intro fun g hg hn => ?_) <;> try simp only [own_none_iff] at hn) | ((with_reducible refine GuardB.split (fun hc => ?_) (fun hc => ?_)) <;> (have hc2 := hc; try simp only [beq_eq_false_iff_ne, beq_iff_eq, ne_eq, bne_iff_ne, bne_eq_false_iff_eq, decide_eq_true_eq, decide_eq_false_iff_not, Bool.not_true, Bool.not_false, Int.not_le, Int.not_lt] at hc2)) | ((with_reducible refine CondK.split (fun hc => ?_) (fun hc => ?_)) <;> (have hc2 := hc; try simp only [beq_eq_false_iff_ne, beq_iff_eq, ne_eq, bne_iff_ne, bne_eq_false_iff_eq, decide_eq_true_eq, decide_eq_false_iff_not, Bool.not_true, Bool.not_false, Int.not_le, Int.not_lt] at hc2)) | ((with_reducible refine PickK.split (fun hc => ?_) (fun hc => ?_)) <;> (have hc2 := hc; try simp only [beq_eq_false_iff_ne, beq_iff_eq, ne_eq, bne_iff_ne, bne_eq_false_iff_eq, decide_eq_true_eq, decide_eq_false_iff_not, Bool.not_true, Bool.not_false, Int.not_le, Int.not_lt] at hc2)) | (with_reducible refine dop_buildSlice ?_) | (with_reducible refine dop_build ?_) | ((with_reducible refine GuardD.split (fun hc => ?_) (fun hc => ?_)) <;> (have hc2 := hc; try simp only [beq_eq_false_iff_ne, beq_iff_eq, ne_eq, bne_iff_ne, bne_eq_false_iff_eq, decide_eq_true_eq, decide_eq_false_iff_not, Bool.not_true, Bool.not_false, Int.not_le, Int.not_lt] at hc2)) | (with_reducible refine stp_build ?_) | (with_reducible refine stp_buildSlice ?_) | (with_reducible refine stp_store ?_) | (with_reducible refine stp_ns ?_) | (with_reducible refine NsB.intro (fun h' ho K' hk => by simp -implicitDefEqProofs (maxSteps := 1000000) only [go_sem, seval, *] <;> exact hk) ?_) | (with_reducible refine WrB.intro _ (by simp -implicitDefEqProofs (maxSteps := 1000000) only [go_sem, seval, *]) (fun h' ho K' hk => by simp -implicitDefEqProofs (maxSteps := 1000000) only [go_sem, seval, *]; exact hk) (fun h' ho K' hk => by simp -implicitDefEqProofs (maxSteps := 1000000) only [go_sem, seval, *] at hk; exact hk) (fun h' ho hk => by simp -implicitDefEqProofs (maxSteps := 1000000) only [go_sem, seval, *] at hk <;> with_unfolding_all exact False.elim hk) ?_) | (with_reducible refine WrB.intro _ (by simp -implicitDefEqProofs (maxSteps := 1000000) only [go_sem, seval, *]) (fun h' ho K' hk => by simp -implicitDefEqProofs (maxSteps := 1000000) only [go_sem, seval, *]; exact hk) ?_) | ((with_reducible refine DDraw.auto mo ?_ ?_); kernel_rfl)) <;> simp -implicitDefEqProofs (maxSteps := 1000000) only [go_sem, seval, *]) | (with_reducible refine bi_same ?_))
    exact hK.out h fa1.out

end Go.Proofs.Ytdhdfdaclbfkiaa
