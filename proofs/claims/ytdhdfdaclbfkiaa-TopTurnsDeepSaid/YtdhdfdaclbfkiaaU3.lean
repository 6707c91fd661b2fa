/-
  Walks. Conditions: none.
-/
import Derived.Test.YtdhdfdaclbfkiaaU2
set_option linter.unusedVariables false
set_option linter.unusedSimpArgs false
namespace Go.Proofs.Ytdhdfdaclbfkiaa
open Go.RowKit Go.SL
set_option maxHeartbeats 1000000
set_option maxRecDepth 1000000
attribute [local go_sem] fl_getD fl_get fl_set lk_def st_def gL_nil gL_zero gL_succ sL_nil_zero sL_nil_succ sL_zero sL_succ Option.getD_none FgK_app onlyL_nil onlyL_none onlyL_some setO_some toB_bool toB_undef yl_def
attribute [local go_sem high] GuardK_yl GuardL_yl
attribute [local go_sem] initL_one initL_cons lastL_one lastL_cons LastK_app fin_round Fr.inr_w0 Fr.inr_ro Fr.inr_M cell_inr LoopO_some YieldK_some RoundQ_normal RoundQ_ret RoundQ_exit EndR_none EndR_some BegK_app BegR_some OutR_none OutR_ret OutR_exit LeftR_some LeftK_app
attribute [local go_sem] i64w
attribute [local go_sem] add_none
theorem readV_split {ro : Addr → Option Value} {b : Nat} : ∀ {p q off : Nat} {xs : List Value}, readV ro b off (p + q) = some xs → readV ro b off p = some (xs.take p) ∧ readV ro b (off + p) q = some (xs.drop p)
  | 0, q, off, xs, e => by
    rw [Nat.zero_add] at e
    exact ⟨rfl, e⟩
  | p + 1, q, off, xs, e => by
    rw [show p + 1 + q = (p + q) + 1 by omega, readV_succ] at e
    rw [readV_succ]
    cases hc : ro ⟨b, off, none⟩ with
    | none => rw [hc] at e; cases e
    | some v =>
      rw [hc, readVC_some] at e
      cases hr : readV ro b (off + 1) (p + q) with
      | none => rw [hr] at e; cases e
      | some ys =>
        rw [hr] at e
        simp only [Option.map_some, Option.some.injEq] at e
        subst e
        have := readV_split (p := p) (q := q) hr
        rw [readVC_some, this.1, show off + (p + 1) = off + 1 + p by omega]
        exact ⟨rfl, this.2⟩
theorem tn_drop : ∀ (L : List (Int × Int)) (a : Nat), (L.flatMap tnC).drop (a * 2) = (L.drop a).flatMap tnC
  | L, 0 => by simp
  | [], a + 1 => by simp
  | x :: L, a + 1 => by
    rw [List.flatMap_cons, show (a + 1) * 2 = a * 2 + 1 + 1 by omega, List.drop_succ_cons]
    exact tn_drop L a
theorem tn_take : ∀ (L : List (Int × Int)) (a : Nat), (L.flatMap tnC).take (a * 2) = (L.take a).flatMap tnC
  | L, 0 => by simp
  | [], a + 1 => by simp
  | x :: L, a + 1 => by
    rw [List.flatMap_cons, show (a + 1) * 2 = a * 2 + 1 + 1 by omega, List.take_succ_cons, List.flatMap_cons]
    show .int .i64 x.1 :: .int .i64 x.2 :: (L.flatMap tnC).take (a * 2) = _
    rw [tn_take L a]
    rfl
/-- A part of the turns. -/
def segL (L : List (Int × Int)) (a k : Nat) : List (Int × Int) := (L.drop a).take k
theorem readV_seg {ro : Addr → Option Value} {b n a k : Nat} {L : List (Int × Int)} (hr : readV ro b 0 (n * 2) = some (L.flatMap tnC)) (h : a + k ≤ n) : readV ro b (a * 2) (k * 2) = some ((segL L a k).flatMap tnC) := by
  rw [show n * 2 = a * 2 + (k * 2 + (n - a - k) * 2) by omega] at hr
  have h1 := (readV_split hr).2
  rw [Nat.zero_add, tn_drop] at h1
  have h2 := (readV_split h1).1
  rw [tn_take] at h2
  exact h2
theorem segL_len {L : List (Int × Int)} {n a k : Nat} (hl : L.length = n) (h : a + k ≤ n) : (segL L a k).length = k := by
  unfold segL
  rw [List.length_take, List.length_drop]
  omega
theorem segL_mem {L : List (Int × Int)} {a k : Nat} {x : Int × Int} (h : x ∈ segL L a k) : x ∈ L := List.mem_of_mem_drop (List.mem_of_mem_take h)
/-- Whether there is a shift after so many steps. -/
def okD (lo hi l r l' r' : Int) (A B : List (Int × Int)) (n j : Nat) : Prop := (shF (ndF lo hi l r l' r' (segL A (n - min (j + 1) n) (min (j + 1) n)) (segL B (j + 1 - min (j + 1) n) (min (j + 1) n))) (min (j + 1) n)).1 ≤ (shF (ndF lo hi l r l' r' (segL A (n - min (j + 1) n) (min (j + 1) n)) (segL B (j + 1 - min (j + 1) n) (min (j + 1) n))) (min (j + 1) n)).2
/-- What is owned after so many steps. -/
def DpI (L D g6 g9 : Nat) (rec : Loop) (ms : List Value) (k : Nat) (S : Hp) (j : Nat) (h : Hp) : Prop :=
  (∀ g o, S.own g = some o → h.own g = some o) ∧ h.own L = some (.loop rec) ∧ h.own D = some (.deferred (some [])) ∧ h.own g6 = some (.cells #[.int .i64 j] 3) ∧ S.own L = none ∧ S.own D = none ∧ S.own g6 = none ∧ S.own g9 = some (.cells ms.toArray 139) ∧ j ≤ k
def DpE (L D g6 : Nat) (rec : Loop) (k : Nat) (S h : Hp) : Prop :=
  (∀ g o, S.own g = some o → h.own g = some o) ∧ h.own L = some (.loop { rec with state := .done, pending := some (.exit 0) }) ∧ h.own D = some (.deferred (some [])) ∧ h.own g6 = some (.cells #[.int .i64 k] 3)
theorem DpI.step {L D g6 g9 : Nat} {rec : Loop} {ms : List Value} {k : Nat} (hp : rec.params.size = 2) : StepI L (DpI L D g6 g9 rec ms k) := by
  refine ⟨fun S j h q => q.1, fun S j h q => ⟨rec, q.2.1, hp⟩, fun S j h g o q hg => ?_⟩
  obtain ⟨a, b, c, d, e1, e2, e3, e4, e5⟩ := q
  have kk := fun y u (e : h.own y = some u) => sub_setN (ob := o) hg y u e
  have nL := (own_ne b g hg).1
  have nD := (own_ne c g hg).1
  have n6 := (own_ne d g hg).1
  have n9 := (own_ne (a _ _ e4) g hg).1
  refine ⟨fun y u e => ?_, kk _ _ b, kk _ _ c, kk _ _ d, by rw [Hp.own_set, if_neg nL]; exact e1, by rw [Hp.own_set, if_neg nD]; exact e2, by rw [Hp.own_set, if_neg n6]; exact e3, by rw [Hp.own_set, if_neg n9]; exact e4, e5⟩
  rw [Hp.own_set] at e ⊢
  split at e
  · rename_i hy; rw [if_pos hy]; exact e
  · rename_i hy; rw [if_neg hy]; exact a y u e
set_option maxHeartbeats 8000000 in
theorem Deep_ok (ro : Addr → Option Value) (lo hi l r l' r' : Int) (A B : List (Int × Int)) (b c b' c' n m k : Nat) (hd : Hold (-200000 ≤ lo ∧ lo ≤ hi ∧ hi ≤ 200000)) (hv : Hold (ThOk n l r A)) (hv' : Hold (ThOk m l' r' B)) (hc : n ≤ c) (hc' : m ≤ c')
    (ra : readV ro b 0 (n * 2) = some (A.flatMap tnC)) (rb : readV ro b' 0 (m * 2) = some (B.flatMap tnC)) (hk : Hold (k ≤ m ∧ (∀ j, j < k → okD lo hi l r l' r' A B n j) ∧ (k < m → ¬ okD lo hi l r l' r' A B n k))) :
    Cr Try.prog 30 #[.agg #[.slice (some ⟨b, 0, none⟩) n c, .int .i64 l, .int .i64 r], .agg #[.slice (some ⟨b', 0, none⟩) m c', .int .i64 l', .int .i64 r'], .agg #[.int .i64 lo, .int .i64 hi]] ro (.tuple #[.int .i64 k, .int .i64 0]) := by
  replace ra := Hold.mk ra
  replace rb := Hold.mk rb
  refine Cr.ofD fun F hF hT => ?_
  subst hF
  (refine DCall.inlP (l := _) Try.func30 Try.ntmps30 rfl rfl (by simp only [seval, List.length_cons, List.length_nil]) (by simp only [seval, List.length_cons, List.length_nil]) ?_; simp only [Try.results30, List.map_cons, List.map_nil])
  repeat' (first | (with_reducible refine at_seq (by with_unfolding_all exact rfl) ?_) | ((first | (with_reducible refine at_plain (by with_unfolding_all exact rfl) ?_) | (with_reducible refine at_draw (by with_unfolding_all exact rfl) ?_) | (with_reducible refine at_cond (by with_unfolding_all exact rfl) ?_) | (with_reducible refine at_exit (by with_unfolding_all exact rfl) ?_) | (with_reducible refine at_ret (by with_unfolding_all exact rfl) ?_) | (with_reducible refine at_skip (by with_unfolding_all exact rfl) ?_) | (with_reducible refine at_label (by with_unfolding_all exact rfl) ?_)) <;> try simp -implicitDefEqProofs (maxSteps := 1000000) only [go_sem, seval, *]) | (with_reducible refine at_block (by with_unfolding_all exact rfl) ?_) | (with_reducible refine at_loop (by with_unfolding_all exact rfl) ?_) | ((first | ((with_reducible refine NewK.intro fun g hg hn => ?_) <;> try simp only [own_none_iff] at hn) | ((with_reducible refine GuardB.split (fun hc => ?_) (fun hc => ?_)) <;> (have hc2 := hc; try simp only [beq_eq_false_iff_ne, beq_iff_eq, ne_eq, bne_iff_ne, bne_eq_false_iff_eq, decide_eq_true_eq, decide_eq_false_iff_not, Bool.not_true, Bool.not_false, Int.not_le, Int.not_lt] at hc2)) | ((with_reducible refine CondK.split (fun hc => ?_) (fun hc => ?_)) <;> (have hc2 := hc; try simp only [beq_eq_false_iff_ne, beq_iff_eq, ne_eq, bne_iff_ne, bne_eq_false_iff_eq, decide_eq_true_eq, decide_eq_false_iff_not, Bool.not_true, Bool.not_false, Int.not_le, Int.not_lt] at hc2)) | ((with_reducible refine PickK.split (fun hc => ?_) (fun hc => ?_)) <;> (have hc2 := hc; try simp only [beq_eq_false_iff_ne, beq_iff_eq, ne_eq, bne_iff_ne, bne_eq_false_iff_eq, decide_eq_true_eq, decide_eq_false_iff_not, Bool.not_true, Bool.not_false, Int.not_le, Int.not_lt] at hc2)) | (with_reducible refine dop_buildSlice ?_) | (with_reducible refine dop_build ?_) | ((with_reducible refine Cr.call (f := 74) (checkAll2_ok _ _ _ b c n b' c' m l r l' r' lo hi A B hd hv (readV_mono (fun a u e => Hp.cell_ro e) ra.out) hv' (readV_mono (fun a u e => Hp.cell_ro e) rb.out) (by simp -implicitDefEqProofs (maxSteps := 1000000) only [go_sem, seval, *]) (by simp -implicitDefEqProofs (maxSteps := 1000000) only [go_sem, seval, *]) (by simp -implicitDefEqProofs (maxSteps := 1000000) only [go_sem, seval, *]) (by simp -implicitDefEqProofs (maxSteps := 1000000) only [go_sem, seval, *]) (by simp -implicitDefEqProofs (maxSteps := 1000000) only [go_sem, seval, *]) (by simp -implicitDefEqProofs (maxSteps := 1000000) only [go_sem, seval, *])) ?_)) | (with_reducible refine CallV.of (f := 74) (checkAll2_ok _ _ _ b c n b' c' m l r l' r' lo hi A B hd hv (readV_mono (fun a u e => Hp.cell_ro e) ra.out) hv' (readV_mono (fun a u e => Hp.cell_ro e) rb.out) (by simp -implicitDefEqProofs (maxSteps := 1000000) only [go_sem, seval, *]) (by simp -implicitDefEqProofs (maxSteps := 1000000) only [go_sem, seval, *]) (by simp -implicitDefEqProofs (maxSteps := 1000000) only [go_sem, seval, *]) (by simp -implicitDefEqProofs (maxSteps := 1000000) only [go_sem, seval, *]) (by simp -implicitDefEqProofs (maxSteps := 1000000) only [go_sem, seval, *]) (by simp -implicitDefEqProofs (maxSteps := 1000000) only [go_sem, seval, *])) ni74 ?_) | ((with_reducible refine GuardD.split (fun hc => ?_) (fun hc => ?_)) <;> (have hc2 := hc; try simp only [beq_eq_false_iff_ne, beq_iff_eq, ne_eq, bne_iff_ne, bne_eq_false_iff_eq, decide_eq_true_eq, decide_eq_false_iff_not, Bool.not_true, Bool.not_false, Int.not_le, Int.not_lt] at hc2)) | (with_reducible refine stp_build ?_) | (with_reducible refine stp_buildSlice ?_) | (with_reducible refine stp_store ?_) | (with_reducible refine stp_ns ?_) | (with_reducible refine NsB.intro (fun h' ho K' hk => by simp -implicitDefEqProofs (maxSteps := 1000000) only [go_sem, seval, *] <;> exact hk) ?_) | (with_reducible refine WrB.intro _ (by simp -implicitDefEqProofs (maxSteps := 1000000) only [go_sem, seval, *]) (fun h' ho K' hk => by simp -implicitDefEqProofs (maxSteps := 1000000) only [go_sem, seval, *]; exact hk) (fun h' ho K' hk => by simp -implicitDefEqProofs (maxSteps := 1000000) only [go_sem, seval, *] at hk; exact hk) (fun h' ho hk => by simp -implicitDefEqProofs (maxSteps := 1000000) only [go_sem, seval, *] at hk <;> with_unfolding_all exact False.elim hk) ?_) | (with_reducible refine WrB.intro _ (by simp -implicitDefEqProofs (maxSteps := 1000000) only [go_sem, seval, *]) (fun h' ho K' hk => by simp -implicitDefEqProofs (maxSteps := 1000000) only [go_sem, seval, *]; exact hk) ?_) | ((with_reducible refine DDraw.auto mo ?_ ?_); kernel_rfl)) <;> simp -implicitDefEqProofs (maxSteps := 1000000) only [go_sem, seval, *]) | (with_reducible refine bi_same ?_))
  rename_i g3 hg3 hn3 g4 hg4 hn4 g5 hg5 hn5 g6 hg6 hn6 gb hgb hnb
  generalize hgg : g = g9 at *
  clear hgg
  refine at_rangeFunc (by with_unfolding_all exact rfl) ?_
  refine DWp.rangeFuncB (gf := 81) (ba := #[.agg #[.int .i64 lo, .int .i64 hi, .slice (some ⟨b, 0, none⟩) n c, .int .i64 l, .int .i64 r, .slice (some ⟨b', 0, none⟩) m c', .int .i64 l', .int .i64 r']]) (lb := #[]) hT (by simp -implicitDefEqProofs (maxSteps := 1000000) only [go_sem, seval, *]) (by unfold entB; rw [Try.func81]; rfl) (fun D hD1 hD2 L hL1 hL2 fn => ?_)
  simp only [own_none_iff] at hD2 hL2
  generalize hrec : recL fn _ _ _ _ D = rec
  have es : rec.state = .ready := by rw [← hrec]; rfl
  have en : rec.pending = none := by rw [← hrec]; rfl
  have ea : rec.assign = _ := congrArg Loop.assign hrec.symm
  have eb : rec.body = _ := congrArg Loop.body hrec.symm
  have et : rec.tmps = _ := congrArg Loop.tmps hrec.symm
  have ep : rec.params = _ := congrArg Loop.params hrec.symm
  simp only [recL] at ea eb et ep
  replace ea := Hold.mk ea
  replace eb := Hold.mk eb
  replace et := Hold.mk et
  replace ep := Hold.mk ep
  have er : ({ state := .ready, pending := none, fn := rec.fn, tmps := rec.tmps, params := rec.params, assign := rec.assign, body := rec.body, defers := rec.defers } : Loop) = rec := by rw [← hrec]; rfl
  have ep2 : rec.params.size = 2 := by rw [ep.out]; rfl
  show DCall Try.prog F 81 #[.agg #[.int .i64 lo, .int .i64 hi, .slice (some ⟨b, 0, none⟩) n c, .int .i64 l, .int .i64 r, .slice (some ⟨b', 0, none⟩) m c', .int .i64 l', .int .i64 r'], .func (.yield L) #[] #[]] _ _
  refine steps_D F _ _ n c m c' b b' L lo hi l r l' r' (Hp.none_.set g9 (.cells #[.int .i64 lo, .int .i64 hi, .slice (some ⟨b, 0, none⟩) n c, .int .i64 l, .int .i64 r, .slice (some ⟨b', 0, none⟩) m c', .int .i64 l', .int .i64 r'] 139)) (DpI L D g6 g9 rec [.int .i64 lo, .int .i64 hi, .slice (some ⟨b, 0, none⟩) n c, .int .i64 l, .int .i64 r, .slice (some ⟨b', 0, none⟩) m c', .int .i64 l', .int .i64 r'] k) (DpE L D g6 rec k) (fun S h' q => q.1) ⟨hv.out.hn, hc⟩ ⟨hv'.out.hn, hc'⟩ (DpI.step ep2) ⟨?_⟩ ?_ ⟨?_⟩ ⟨?_⟩
  · intro S j h' K' hjm q hkt hkf rr hrr
    obtain ⟨m0, m1, m2, m3, s1, s2, s3, s4, m4⟩ := q
    obtain rfl : rec = rr := by rw [m1] at hrr; cases hrr; rfl
    have u9 := m0 _ _ s4
    have w1 := own_ne m1
    have w2 := own_ne m2
    have w3 := own_ne m3
    have w4 := own_ne u9
    have nb := hv.out.hn
    have mb := hv'.out.hn
    have hkk := hk.out
    have iw : IntKind.i64.wrap ((j : Int) + 1) = ((j + 1 : Nat) : Int) := by rw [IntWalk.i64_in _ (by omega)]; push_cast; rfl
    have q1 : n - (n - min (j + 1) n) = min (j + 1) n := by omega
    have q2 : j + 1 - (j + 1 - min (j + 1) n) = min (j + 1) n := by omega
    rw [q1, q2]
    have hok : okD lo hi l r l' r' A B n j ↔ j < k := by
      constructor
      · intro ho
        apply Classical.byContradiction
        intro hn
        have : j = k := by omega
        subst this
        exact hkk.2.2 hjm ho
      · exact hkk.2.1 j
    unfold okD at hok
    have ks := Hold.mk (fun ro v1 v2 ra rb => shifts_ok ro lo hi l r l' r' v1 v2 (segL A (n - min (j + 1) n) (min (j + 1) n)) (segL B (j + 1 - min (j + 1) n) (min (j + 1) n)) b ((n - min (j + 1) n) * 2) (c - (n - min (j + 1) n)) b' ((j + 1 - min (j + 1) n) * 2) (c' - (j + 1 - min (j + 1) n)) (min (j + 1) n) hd ⟨hv.out.hl⟩ ⟨hv.out.hr⟩ ⟨hv'.out.hl⟩ ⟨hv'.out.hr⟩ ⟨by omega, segL_len hv.out.len (by omega), segL_len hv'.out.len (by omega)⟩ ⟨fun p hp => okT_mem (by decide) hv.out.ok p (segL_mem hp)⟩ ⟨fun p hp => okT_mem (by decide) hv'.out.ok p (segL_mem hp)⟩ ra rb)
    have rsa := Hold.mk (readV_seg (n := n) (a := n - min (j + 1) n) (k := min (j + 1) n) ra.out (by omega))
    have rsb := Hold.mk (readV_seg (n := m) (a := j + 1 - min (j + 1) n) (k := min (j + 1) n) rb.out (by omega))
    generalize segL A (n - min (j + 1) n) (min (j + 1) n) = A1 at *
    generalize segL B (j + 1 - min (j + 1) n) (min (j + 1) n) = B1 at *
    generalize (n - min (j + 1) n) * 2 = o1 at *
    generalize (j + 1 - min (j + 1) n) * 2 = o2 at *
    generalize c - (n - min (j + 1) n) = c1 at *
    generalize c' - (j + 1 - min (j + 1) n) = c2 at *
    generalize shF (ndF lo hi l r l' r' A1 B1) (min (j + 1) n) = sv at *
    generalize min (j + 1) n = mm at *
    have rsx : Hold (∀ h : Hp, readV (h.cell? F.inr) b o1 (mm * 2) = some (A1.flatMap tnC)) := ⟨fun h => by show readV (h.cell? F) b o1 (mm * 2) = _; exact readV_mono (fun a u e => Hp.cell_ro e) rsa.out⟩
    have rsy : Hold (∀ h : Hp, readV (h.cell? F.inr) b' o2 (mm * 2) = some (B1.flatMap tnC)) := ⟨fun h => by show readV (h.cell? F) b' o2 (mm * 2) = _; exact readV_mono (fun a u e => Hp.cell_ro e) rsb.out⟩
    clear rsa rsb
    replace hkt := Hold.mk hkt
    replace hkf := Hold.mk hkf
    clear hrr q1 q2 nb mb hkk
    by_cases hjk : j < k
    · have d1 : (sv.1 ≤ sv.2) = True := by simp only [eq_iff_iff, iff_true]; exact hok.2 hjk
      refine DRound.intro ?_
      simp only [ea.out, eb.out, et.out, ep.out, fold2]
      clear hrec hok
      simp -implicitDefEqProofs (maxSteps := 1000000) only [go_sem, seval, *]
      repeat' (first | (with_reducible refine at_seq (by with_unfolding_all exact rfl) ?_) | ((first | (with_reducible refine at_plain (by with_unfolding_all exact rfl) ?_) | (with_reducible refine at_draw (by with_unfolding_all exact rfl) ?_) | (with_reducible refine at_cond (by with_unfolding_all exact rfl) ?_) | (with_reducible refine at_exit (by with_unfolding_all exact rfl) ?_) | (with_reducible refine at_ret (by with_unfolding_all exact rfl) ?_) | (with_reducible refine at_skip (by with_unfolding_all exact rfl) ?_) | (with_reducible refine at_label (by with_unfolding_all exact rfl) ?_)) <;> try simp -implicitDefEqProofs (maxSteps := 1000000) only [go_sem, seval, *]) | (with_reducible refine at_block (by with_unfolding_all exact rfl) ?_) | (with_reducible refine at_loop (by with_unfolding_all exact rfl) ?_) | ((first | ((with_reducible refine NewK.intro_inr fun g hg hn => ?_); try simp only [own_none_iff] at hn) | ((with_reducible refine NewK.intro fun g hg hn => ?_) <;> try simp only [own_none_iff] at hn) | ((with_reducible refine GuardB.split (fun hc => ?_) (fun hc => ?_)) <;> (have hc2 := hc; try simp only [beq_eq_false_iff_ne, beq_iff_eq, ne_eq, bne_iff_ne, bne_eq_false_iff_eq, decide_eq_true_eq, decide_eq_false_iff_not, Bool.not_true, Bool.not_false, Int.not_le, Int.not_lt] at hc2)) | ((with_reducible refine CondK.split (fun hc => ?_) (fun hc => ?_)) <;> (have hc2 := hc; try simp only [beq_eq_false_iff_ne, beq_iff_eq, ne_eq, bne_iff_ne, bne_eq_false_iff_eq, decide_eq_true_eq, decide_eq_false_iff_not, Bool.not_true, Bool.not_false, Int.not_le, Int.not_lt] at hc2)) | ((with_reducible refine PickK.split (fun hc => ?_) (fun hc => ?_)) <;> (have hc2 := hc; try simp only [beq_eq_false_iff_ne, beq_iff_eq, ne_eq, bne_iff_ne, bne_eq_false_iff_eq, decide_eq_true_eq, decide_eq_false_iff_not, Bool.not_true, Bool.not_false, Int.not_le, Int.not_lt] at hc2)) | (with_reducible refine dop_buildSlice ?_) | (with_reducible refine dop_build ?_) | ((with_reducible refine Cr.call (f := 76) (ks.out _ _ _ (rsx.out _) (rsy.out _)) ?_)) | (with_reducible refine CallV.of (f := 76) (ks.out _ _ _ (rsx.out _) (rsy.out _)) ni76 ?_) | ((with_reducible refine GuardD.split (fun hc => ?_) (fun hc => ?_)) <;> (have hc2 := hc; try simp only [beq_eq_false_iff_ne, beq_iff_eq, ne_eq, bne_iff_ne, bne_eq_false_iff_eq, decide_eq_true_eq, decide_eq_false_iff_not, Bool.not_true, Bool.not_false, Int.not_le, Int.not_lt] at hc2)) | (with_reducible refine stp_build ?_) | (with_reducible refine stp_buildSlice ?_) | (with_reducible refine stp_store ?_) | (with_reducible refine stp_ns ?_) | (with_reducible refine NsB.intro (fun h' ho K' hk => by simp -implicitDefEqProofs (maxSteps := 1000000) only [go_sem, seval, *] <;> exact hk) ?_) | (with_reducible refine WrB.intro _ (by simp -implicitDefEqProofs (maxSteps := 1000000) only [go_sem, seval, *]) (fun h' ho K' hk => by simp -implicitDefEqProofs (maxSteps := 1000000) only [go_sem, seval, *]; exact hk) (fun h' ho K' hk => by simp -implicitDefEqProofs (maxSteps := 1000000) only [go_sem, seval, *] at hk; exact hk) (fun h' ho hk => by simp -implicitDefEqProofs (maxSteps := 1000000) only [go_sem, seval, *] at hk <;> with_unfolding_all exact False.elim hk) ?_) | (with_reducible refine WrB.intro _ (by simp -implicitDefEqProofs (maxSteps := 1000000) only [go_sem, seval, *]) (fun h' ho K' hk => by simp -implicitDefEqProofs (maxSteps := 1000000) only [go_sem, seval, *]; exact hk) ?_) | ((with_reducible refine DDraw.auto mo ?_ ?_); kernel_rfl)) <;> simp -implicitDefEqProofs (maxSteps := 1000000) only [go_sem, seval, *]) | (with_reducible refine bi_same ?_))
      have keepS : ∀ y o, S.own y = some o → y ≠ L ∧ y ≠ g ∧ y ≠ g6 ∧ h'.own y = some o := fun y o e => by
        have e1 := m0 y o e
        refine ⟨?_, (own_ne e1 g (by simp -implicitDefEqProofs (maxSteps := 1000000) only [go_sem, seval, *])).1, ?_, e1⟩
        · rintro rfl; rw [s1] at e; cases e
        · rintro rfl; rw [s3] at e; cases e
      refine hkt.out _ ⟨fun y o e => ?_, by simp -implicitDefEqProofs (maxSteps := 1000000) only [go_sem, seval, *], by simp -implicitDefEqProofs (maxSteps := 1000000) only [go_sem, seval, *], by simp -implicitDefEqProofs (maxSteps := 1000000) only [go_sem, seval, *], s1, s2, s3, s4, by omega⟩
      obtain ⟨n1, n2, n3, e1⟩ := keepS y o e
      rw [Hp.own_set, if_neg n1, Hp.own_set, if_neg n3, Hp.own_set, if_neg n2, Hp.own_set, if_neg n1]
      exact e1
    · have d1 : (sv.1 ≤ sv.2) = False := by simp only [eq_iff_iff, iff_false]; exact fun ho => hjk (hok.1 ho)
      refine DRound.intro ?_
      simp only [ea.out, eb.out, et.out, ep.out, fold2]
      clear hrec hok
      simp -implicitDefEqProofs (maxSteps := 1000000) only [go_sem, seval, *]
      repeat' (first | (with_reducible refine at_seq (by with_unfolding_all exact rfl) ?_) | ((first | (with_reducible refine at_plain (by with_unfolding_all exact rfl) ?_) | (with_reducible refine at_draw (by with_unfolding_all exact rfl) ?_) | (with_reducible refine at_cond (by with_unfolding_all exact rfl) ?_) | (with_reducible refine at_exit (by with_unfolding_all exact rfl) ?_) | (with_reducible refine at_ret (by with_unfolding_all exact rfl) ?_) | (with_reducible refine at_skip (by with_unfolding_all exact rfl) ?_) | (with_reducible refine at_label (by with_unfolding_all exact rfl) ?_)) <;> try simp -implicitDefEqProofs (maxSteps := 1000000) only [go_sem, seval, *]) | (with_reducible refine at_block (by with_unfolding_all exact rfl) ?_) | (with_reducible refine at_loop (by with_unfolding_all exact rfl) ?_) | ((first | ((with_reducible refine NewK.intro_inr fun g hg hn => ?_); try simp only [own_none_iff] at hn) | ((with_reducible refine NewK.intro fun g hg hn => ?_) <;> try simp only [own_none_iff] at hn) | ((with_reducible refine GuardB.split (fun hc => ?_) (fun hc => ?_)) <;> (have hc2 := hc; try simp only [beq_eq_false_iff_ne, beq_iff_eq, ne_eq, bne_iff_ne, bne_eq_false_iff_eq, decide_eq_true_eq, decide_eq_false_iff_not, Bool.not_true, Bool.not_false, Int.not_le, Int.not_lt] at hc2)) | ((with_reducible refine CondK.split (fun hc => ?_) (fun hc => ?_)) <;> (have hc2 := hc; try simp only [beq_eq_false_iff_ne, beq_iff_eq, ne_eq, bne_iff_ne, bne_eq_false_iff_eq, decide_eq_true_eq, decide_eq_false_iff_not, Bool.not_true, Bool.not_false, Int.not_le, Int.not_lt] at hc2)) | ((with_reducible refine PickK.split (fun hc => ?_) (fun hc => ?_)) <;> (have hc2 := hc; try simp only [beq_eq_false_iff_ne, beq_iff_eq, ne_eq, bne_iff_ne, bne_eq_false_iff_eq, decide_eq_true_eq, decide_eq_false_iff_not, Bool.not_true, Bool.not_false, Int.not_le, Int.not_lt] at hc2)) | (with_reducible refine dop_buildSlice ?_) | (with_reducible refine dop_build ?_) | ((with_reducible refine Cr.call (f := 76) (ks.out _ _ _ (rsx.out _) (rsy.out _)) ?_)) | (with_reducible refine CallV.of (f := 76) (ks.out _ _ _ (rsx.out _) (rsy.out _)) ni76 ?_) | ((with_reducible refine GuardD.split (fun hc => ?_) (fun hc => ?_)) <;> (have hc2 := hc; try simp only [beq_eq_false_iff_ne, beq_iff_eq, ne_eq, bne_iff_ne, bne_eq_false_iff_eq, decide_eq_true_eq, decide_eq_false_iff_not, Bool.not_true, Bool.not_false, Int.not_le, Int.not_lt] at hc2)) | (with_reducible refine stp_build ?_) | (with_reducible refine stp_buildSlice ?_) | (with_reducible refine stp_store ?_) | (with_reducible refine stp_ns ?_) | (with_reducible refine NsB.intro (fun h' ho K' hk => by simp -implicitDefEqProofs (maxSteps := 1000000) only [go_sem, seval, *] <;> exact hk) ?_) | (with_reducible refine WrB.intro _ (by simp -implicitDefEqProofs (maxSteps := 1000000) only [go_sem, seval, *]) (fun h' ho K' hk => by simp -implicitDefEqProofs (maxSteps := 1000000) only [go_sem, seval, *]; exact hk) (fun h' ho K' hk => by simp -implicitDefEqProofs (maxSteps := 1000000) only [go_sem, seval, *] at hk; exact hk) (fun h' ho hk => by simp -implicitDefEqProofs (maxSteps := 1000000) only [go_sem, seval, *] at hk <;> with_unfolding_all exact False.elim hk) ?_) | (with_reducible refine WrB.intro _ (by simp -implicitDefEqProofs (maxSteps := 1000000) only [go_sem, seval, *]) (fun h' ho K' hk => by simp -implicitDefEqProofs (maxSteps := 1000000) only [go_sem, seval, *]; exact hk) ?_) | ((with_reducible refine DDraw.auto mo ?_ ?_); kernel_rfl)) <;> simp -implicitDefEqProofs (maxSteps := 1000000) only [go_sem, seval, *]) | (with_reducible refine bi_same ?_))
      have keepS : ∀ y o, S.own y = some o → y ≠ L ∧ y ≠ g ∧ y ≠ g6 ∧ h'.own y = some o := fun y o e => by
        have e1 := m0 y o e
        refine ⟨?_, (own_ne e1 g (by simp -implicitDefEqProofs (maxSteps := 1000000) only [go_sem, seval, *])).1, ?_, e1⟩
        · rintro rfl; rw [s1] at e; cases e
        · rintro rfl; rw [s3] at e; cases e
      have hjk2 : j = k := by omega
      subst hjk2
      refine hkf.out _ ⟨fun y o e => ?_, by simp -implicitDefEqProofs (maxSteps := 1000000) only [go_sem, seval, *], by simp -implicitDefEqProofs (maxSteps := 1000000) only [go_sem, seval, *], by simp -implicitDefEqProofs (maxSteps := 1000000) only [go_sem, seval, *]⟩
      obtain ⟨n1, n2, n3, e1⟩ := keepS y o e
      rw [Hp.own_set, if_neg n1, Hp.own_set, if_neg n2, Hp.own_set, if_neg n1]
      exact e1
  · refine ⟨fun y o e => ?_, by simp -implicitDefEqProofs (maxSteps := 1000000) only [go_sem, seval, *], by simp -implicitDefEqProofs (maxSteps := 1000000) only [go_sem, seval, *], by simp -implicitDefEqProofs (maxSteps := 1000000) only [go_sem, seval, *], by simp -implicitDefEqProofs (maxSteps := 1000000) only [go_sem, seval, *], by simp -implicitDefEqProofs (maxSteps := 1000000) only [go_sem, seval, *], by simp -implicitDefEqProofs (maxSteps := 1000000) only [go_sem, seval, *], by simp -implicitDefEqProofs (maxSteps := 1000000) only [go_sem, seval, *], Nat.zero_le _⟩
    rw [Hp.own_set] at e
    split at e
    · rename_i hy
      subst hy
      cases e
      simp -implicitDefEqProofs (maxSteps := 1000000) only [go_sem, seval, *]
    · cases e
  · intro S h' q
    obtain ⟨m0, m1, m2, m3, s1, s2, s3, s4, m4⟩ := q
    have hmk : m = k := by have := hk.out; omega
    subst hmk
    have w1 := own_ne m1
    have w2 := own_ne m2
    have w3 := own_ne m3
    have w6 : g6 ≠ L ∧ L ≠ g6 := by
      have q : g6 ≠ L := by rintro rfl; rw [m1] at m3; cases m3
      exact ⟨q, q.symm⟩
    simp only [LeftK_app, m1, LeftR_some, en, OutR_none, es]
    refine ⟨(by intro hx; cases hx), ?_⟩
    clear hrec
    simp -implicitDefEqProofs (maxSteps := 1000000) only [go_sem, seval, *]
    repeat' (first | (with_reducible refine at_seq (by with_unfolding_all exact rfl) ?_) | ((first | (with_reducible refine at_plain (by with_unfolding_all exact rfl) ?_) | (with_reducible refine at_draw (by with_unfolding_all exact rfl) ?_) | (with_reducible refine at_cond (by with_unfolding_all exact rfl) ?_) | (with_reducible refine at_exit (by with_unfolding_all exact rfl) ?_) | (with_reducible refine at_ret (by with_unfolding_all exact rfl) ?_) | (with_reducible refine at_skip (by with_unfolding_all exact rfl) ?_) | (with_reducible refine at_label (by with_unfolding_all exact rfl) ?_)) <;> try simp -implicitDefEqProofs (maxSteps := 1000000) only [go_sem, seval, *]) | (with_reducible refine at_block (by with_unfolding_all exact rfl) ?_) | (with_reducible refine at_loop (by with_unfolding_all exact rfl) ?_) | ((first | ((with_reducible refine NewK.intro fun g hg hn => ?_) <;> try simp only [own_none_iff] at hn) | ((with_reducible refine GuardB.split (fun hc => ?_) (fun hc => ?_)) <;> (have hc2 := hc; try simp only [beq_eq_false_iff_ne, beq_iff_eq, ne_eq, bne_iff_ne, bne_eq_false_iff_eq, decide_eq_true_eq, decide_eq_false_iff_not, Bool.not_true, Bool.not_false, Int.not_le, Int.not_lt] at hc2)) | ((with_reducible refine CondK.split (fun hc => ?_) (fun hc => ?_)) <;> (have hc2 := hc; try simp only [beq_eq_false_iff_ne, beq_iff_eq, ne_eq, bne_iff_ne, bne_eq_false_iff_eq, decide_eq_true_eq, decide_eq_false_iff_not, Bool.not_true, Bool.not_false, Int.not_le, Int.not_lt] at hc2)) | ((with_reducible refine PickK.split (fun hc => ?_) (fun hc => ?_)) <;> (have hc2 := hc; try simp only [beq_eq_false_iff_ne, beq_iff_eq, ne_eq, bne_iff_ne, bne_eq_false_iff_eq, decide_eq_true_eq, decide_eq_false_iff_not, Bool.not_true, Bool.not_false, Int.not_le, Int.not_lt] at hc2)) | (with_reducible refine dop_buildSlice ?_) | (with_reducible refine dop_build ?_) | ((with_reducible refine GuardD.split (fun hc => ?_) (fun hc => ?_)) <;> (have hc2 := hc; try simp only [beq_eq_false_iff_ne, beq_iff_eq, ne_eq, bne_iff_ne, bne_eq_false_iff_eq, decide_eq_true_eq, decide_eq_false_iff_not, Bool.not_true, Bool.not_false, Int.not_le, Int.not_lt] at hc2)) | (with_reducible refine stp_build ?_) | (with_reducible refine stp_buildSlice ?_) | (with_reducible refine stp_store ?_) | (with_reducible refine stp_ns ?_) | (with_reducible refine NsB.intro (fun h' ho K' hk => by simp -implicitDefEqProofs (maxSteps := 1000000) only [go_sem, seval, *] <;> exact hk) ?_) | (with_reducible refine WrB.intro _ (by simp -implicitDefEqProofs (maxSteps := 1000000) only [go_sem, seval, *]) (fun h' ho K' hk => by simp -implicitDefEqProofs (maxSteps := 1000000) only [go_sem, seval, *]; exact hk) (fun h' ho K' hk => by simp -implicitDefEqProofs (maxSteps := 1000000) only [go_sem, seval, *] at hk; exact hk) (fun h' ho hk => by simp -implicitDefEqProofs (maxSteps := 1000000) only [go_sem, seval, *] at hk <;> with_unfolding_all exact False.elim hk) ?_) | (with_reducible refine WrB.intro _ (by simp -implicitDefEqProofs (maxSteps := 1000000) only [go_sem, seval, *]) (fun h' ho K' hk => by simp -implicitDefEqProofs (maxSteps := 1000000) only [go_sem, seval, *]; exact hk) ?_) | ((with_reducible refine DDraw.auto mo ?_ ?_); kernel_rfl)) <;> simp -implicitDefEqProofs (maxSteps := 1000000) only [go_sem, seval, *]) | (with_reducible refine bi_same ?_))
  · intro S h' q
    obtain ⟨m0, m1, m2, m3⟩ := q
    have w1 := own_ne m1
    have w2 := own_ne m2
    have w3 := own_ne m3
    have w6 : g6 ≠ L ∧ L ≠ g6 := by
      have q : g6 ≠ L := by rintro rfl; rw [m1] at m3; cases m3
      exact ⟨q, q.symm⟩
    simp only [LeftK_app, m1, LeftR_some, OutR_exit]
    refine ⟨(by intro hx; cases hx), ?_⟩
    clear hrec
    simp -implicitDefEqProofs (maxSteps := 1000000) only [go_sem, seval, *]
    repeat' (first | (with_reducible refine at_seq (by with_unfolding_all exact rfl) ?_) | ((first | (with_reducible refine at_plain (by with_unfolding_all exact rfl) ?_) | (with_reducible refine at_draw (by with_unfolding_all exact rfl) ?_) | (with_reducible refine at_cond (by with_unfolding_all exact rfl) ?_) | (with_reducible refine at_exit (by with_unfolding_all exact rfl) ?_) | (with_reducible refine at_ret (by with_unfolding_all exact rfl) ?_) | (with_reducible refine at_skip (by with_unfolding_all exact rfl) ?_) | (with_reducible refine at_label (by with_unfolding_all exact rfl) ?_)) <;> try simp -implicitDefEqProofs (maxSteps := 1000000) only [go_sem, seval, *]) | (with_reducible refine at_block (by with_unfolding_all exact rfl) ?_) | (with_reducible refine at_loop (by with_unfolding_all exact rfl) ?_) | ((first | ((with_reducible refine NewK.intro fun g hg hn => ?_) <;> try simp only [own_none_iff] at hn) | ((with_reducible refine GuardB.split (fun hc => ?_) (fun hc => ?_)) <;> (have hc2 := hc; try simp only [beq_eq_false_iff_ne, beq_iff_eq, ne_eq, bne_iff_ne, bne_eq_false_iff_eq, decide_eq_true_eq, decide_eq_false_iff_not, Bool.not_true, Bool.not_false, Int.not_le, Int.not_lt] at hc2)) | ((with_reducible refine CondK.split (fun hc => ?_) (fun hc => ?_)) <;> (have hc2 := hc; try simp only [beq_eq_false_iff_ne, beq_iff_eq, ne_eq, bne_iff_ne, bne_eq_false_iff_eq, decide_eq_true_eq, decide_eq_false_iff_not, Bool.not_true, Bool.not_false, Int.not_le, Int.not_lt] at hc2)) | ((with_reducible refine PickK.split (fun hc => ?_) (fun hc => ?_)) <;> (have hc2 := hc; try simp only [beq_eq_false_iff_ne, beq_iff_eq, ne_eq, bne_iff_ne, bne_eq_false_iff_eq, decide_eq_true_eq, decide_eq_false_iff_not, Bool.not_true, Bool.not_false, Int.not_le, Int.not_lt] at hc2)) | (with_reducible refine dop_buildSlice ?_) | (with_reducible refine dop_build ?_) | ((with_reducible refine GuardD.split (fun hc => ?_) (fun hc => ?_)) <;> (have hc2 := hc; try simp only [beq_eq_false_iff_ne, beq_iff_eq, ne_eq, bne_iff_ne, bne_eq_false_iff_eq, decide_eq_true_eq, decide_eq_false_iff_not, Bool.not_true, Bool.not_false, Int.not_le, Int.not_lt] at hc2)) | (with_reducible refine stp_build ?_) | (with_reducible refine stp_buildSlice ?_) | (with_reducible refine stp_store ?_) | (with_reducible refine stp_ns ?_) | (with_reducible refine NsB.intro (fun h' ho K' hk => by simp -implicitDefEqProofs (maxSteps := 1000000) only [go_sem, seval, *] <;> exact hk) ?_) | (with_reducible refine WrB.intro _ (by simp -implicitDefEqProofs (maxSteps := 1000000) only [go_sem, seval, *]) (fun h' ho K' hk => by simp -implicitDefEqProofs (maxSteps := 1000000) only [go_sem, seval, *]; exact hk) (fun h' ho K' hk => by simp -implicitDefEqProofs (maxSteps := 1000000) only [go_sem, seval, *] at hk; exact hk) (fun h' ho hk => by simp -implicitDefEqProofs (maxSteps := 1000000) only [go_sem, seval, *] at hk <;> with_unfolding_all exact False.elim hk) ?_) | (with_reducible refine WrB.intro _ (by simp -implicitDefEqProofs (maxSteps := 1000000) only [go_sem, seval, *]) (fun h' ho K' hk => by simp -implicitDefEqProofs (maxSteps := 1000000) only [go_sem, seval, *]; exact hk) ?_) | ((with_reducible refine DDraw.auto mo ?_ ?_); kernel_rfl)) <;> simp -implicitDefEqProofs (maxSteps := 1000000) only [go_sem, seval, *]) | (with_reducible refine bi_same ?_))

end Go.Proofs.Ytdhdfdaclbfkiaa
