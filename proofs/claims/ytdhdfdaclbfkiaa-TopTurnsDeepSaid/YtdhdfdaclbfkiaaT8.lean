/-
  Walks. Conditions: none.
-/
import Derived.Test.YtdhdfdaclbfkiaaT7
set_option linter.unusedVariables false
set_option linter.unusedSimpArgs false
namespace Go.Proofs.Ytdhdfdaclbfkiaa
open Go.RowKit Go.SL
set_option maxHeartbeats 1000000
set_option maxRecDepth 1000000
attribute [local go_sem] fl_getD fl_get fl_set lk_def st_def gL_nil gL_zero gL_succ sL_nil_zero sL_nil_succ sL_zero sL_succ Option.getD_none FgK_app onlyL_nil onlyL_none onlyL_some setO_some toB_bool toB_undef yl_def
attribute [local go_sem high] GuardK_yl GuardL_yl
attribute [local go_sem] initL_one initL_cons lastL_one lastL_cons LastK_app fin_round Fr.inr_w0 Fr.inr_ro Fr.inr_M cell_inr LoopO_some YieldK_some RoundQ_normal RoundQ_ret RoundQ_exit EndR_none EndR_some BegK_app BegR_some OutR_none OutR_ret OutR_exit LeftR_some LeftK_app
attribute [local go_sem] i64w
attribute [local go_sem] add_none
theorem inf_intT : okInfo Try.prog 3 1 8 = true := by kernel_rfl
theorem one_aggT {x : Int} : ∀ y ∈ [Value.int .i64 x], notAgg y = true := by simp [notAgg]
/-- By how much the flanks stick out. -/
def lfF (p sg : Int) (TL : List (Int × Int)) (j : Nat) : List Int := (List.range j).map fun k => -sg * flL p (TL.getD k (0, 0)) k
def rfF (p sg : Int) (TL : List (Int × Int)) (j : Nat) : List Int := (List.range j).map fun k => sg * flR p (TL.getD k (0, 0)) k
def szF (p l r lo hi tl tr sg : Int) (TL : List (Int × Int)) (n : Nat) : Int := maxL (lfF p sg TL n) + maxL (rfF p sg TL n) + 4 * (mostF lo hi (sg * (l - tl)) + mostF lo hi (sg * (r - tr)))
theorem maxL_bd {B : Int} : ∀ (r : List Int) (a : Int), (-B ≤ a ∧ a ≤ B) → (∀ x ∈ r, -B ≤ x ∧ x ≤ B) → -B ≤ r.foldl max a ∧ r.foldl max a ≤ B
  | [], _, h, _ => h
  | x :: r, a, h, hr => by
    have hx := hr x (List.mem_cons_self ..)
    exact maxL_bd r (max a x) (by omega) (fun y hy => hr y (List.mem_cons_of_mem _ hy))
theorem fl_bd {p : Int} {x : Int × Int} {j : Nat} (hp : 0 ≤ p ∧ p ≤ 200000) (hj : j ≤ 60) (h1 : -10000000 ≤ x.1 ∧ x.1 ≤ 10000000) (h2 : -10000000 ≤ x.2 ∧ x.2 ≤ 10000000) : (-100000000000000 ≤ flL p x j ∧ flL p x j ≤ 100000000000000) ∧ -100000000000000 ≤ flR p x j ∧ flR p x j ≤ 100000000000000 := by
  have m := mul_bd (a := 4 * (j : Int)) (b := p) (A := 240) (B := 200000) (by omega) (by omega) (by omega) (by omega)
  unfold flL flR
  omega
theorem tl_bd {n : Nat} {tl tr : Int} {TL : List (Int × Int)} (hv : ThOk n tl tr TL) {j : Nat} (hj : j < n) : (-10000000 ≤ (TL.getD j (0, 0)).1 ∧ (TL.getD j (0, 0)).1 ≤ 10000000) ∧ -10000000 ≤ (TL.getD j (0, 0)).2 ∧ (TL.getD j (0, 0)).2 ≤ 10000000 := by
  have hl : j < TL.length := by rw [hv.len]; exact hj
  have e : TL.getD j (0, 0) = TL[j] := by rw [List.getD_eq_getElem?_getD, List.getElem?_eq_getElem hl]; rfl
  rw [e]
  exact okT_mem (by decide) hv.ok _ (List.getElem_mem hl)
theorem lst_some {B : Int} {n : Nat} (f : Nat → Int) (hn : 1 ≤ n) (h : ∀ j, j < n → -B ≤ f j ∧ f j ≤ B) : ∃ a r, (List.range n).map f = a :: r ∧ -B ≤ maxL (a :: r) ∧ maxL (a :: r) ≤ B := by
  obtain ⟨m, rfl⟩ : ∃ m, n = m + 1 := ⟨n - 1, by omega⟩
  rw [List.range_succ_eq_map, List.map_cons]
  refine ⟨_, _, rfl, maxL_bd _ _ (h 0 (by omega)) fun x hx => ?_⟩
  obtain ⟨y, hy, rfl⟩ := List.mem_map.1 hx
  obtain ⟨z, hz, rfl⟩ := List.mem_map.1 hy
  exact h _ (by have := List.mem_range.1 hz; omega)
theorem lfF_some {p sg tl tr : Int} {TL : List (Int × Int)} {n : Nat} (hv : ThOk n tl tr TL) (hp : 0 ≤ p ∧ p ≤ 200000) (hs : sg = 1 ∨ sg = -1) : ∃ a r, lfF p sg TL n = a :: r ∧ -100000000000000 ≤ maxL (a :: r) ∧ maxL (a :: r) ≤ 100000000000000 := by
  refine lst_some _ hv.hn.1 fun j hj => ?_
  have b := tl_bd hv hj
  have := (fl_bd (j := j) hp (by have := hv.hn; omega) b.1 b.2).1
  rcases hs with rfl | rfl <;> omega
theorem rfF_some {p sg tl tr : Int} {TL : List (Int × Int)} {n : Nat} (hv : ThOk n tl tr TL) (hp : 0 ≤ p ∧ p ≤ 200000) (hs : sg = 1 ∨ sg = -1) : ∃ a r, rfF p sg TL n = a :: r ∧ -100000000000000 ≤ maxL (a :: r) ∧ maxL (a :: r) ≤ 100000000000000 := by
  refine lst_some _ hv.hn.1 fun j hj => ?_
  have b := tl_bd hv hj
  have := (fl_bd (j := j) hp (by have := hv.hn; omega) b.1 b.2).2
  rcases hs with rfl | rfl <;> omega
/-- What is owned while the flanks are gone through. -/
def SzI (F : Fr) (S : Hp) (L D g7 g8 : Nat) (rec : Loop) (lf rf : Nat → List Int) (j : Nat) (h : Hp) : Prop :=
  (∀ g o, S.own g = some o → h.own g = some o) ∧ h.own L = some (.loop rec) ∧ h.own D = some (.deferred (some [])) ∧ ∃ v1 v2 : Value, h.own g7 = some (.cells #[v1] 80) ∧ h.own g8 = some (.cells #[v2] 80) ∧
    Own F h 3 1 v1 j (ints (lf j)) ∧ Own F h 3 1 v2 j (ints (rf j)) ∧ (∀ x, blk v1 = some x ∨ blk v2 = some x → S.own x = none ∧ x ≠ L ∧ x ≠ D ∧ x ≠ g7 ∧ x ≠ g8) ∧ ∀ x, blk v1 = some x → blk v2 ≠ some x
theorem SzI.fresh {F : Fr} {S : Hp} {L D g7 g8 : Nat} {rec : Loop} {lf rf : Nat → List Int} {j : Nat} {h : Hp} {g : Nat} {o : Obj} (q : SzI F S L D g7 g8 rec lf rf j h) (hg : h.own g = none) : SzI F S L D g7 g8 rec lf rf j (h.set g o) := by
  obtain ⟨a, b, c, v1, v2, d1, d2, e1, e2, f1, f2⟩ := q
  have k := fun y u (e : h.own y = some u) => sub_setN (ob := o) hg y u e
  exact ⟨fun y u e => k y u (a y u e), k _ _ b, k _ _ c, v1, v2, k _ _ d1, k _ _ d2, e1.other (e1.nblk g hg), e2.other (e2.nblk g hg), f1, f2⟩
set_option maxHeartbeats 8000000 in
theorem size_ok (ro : Addr → Option Value) (n b c : Nat) (p l r ua ub us ut tl tr lo hi sg : Int) (lh : Bool) (TL : List (Int × Int)) (hv : Hold (ThOk n tl tr TL)) (hp : Hold (0 ≤ p ∧ p ≤ 200000)) (hl : Hold (0 ≤ l ∧ l ≤ 3000)) (hr : Hold (0 ≤ r ∧ r ≤ 3000)) (hd : Hold (-200000 ≤ lo ∧ lo ≤ hi ∧ hi ≤ 200000)) (hsg : Hold (sg = 1 ∨ sg = -1))
    (hrd : readV ro b 0 (n * 2) = some (TL.flatMap tnC)) :
    Cr Try.prog 72 #[.agg #[.int .i64 p, .int .i64 l, .int .i64 r, .int .i64 ua, .int .i64 ub, .int .i64 us, .bool lh, .int .i64 ut, .int .i64 lo, .int .i64 hi], .agg #[.slice (some ⟨b, 0, none⟩) n c, .int .i64 tl, .int .i64 tr], .int .i64 sg] ro (.int .i64 (szF p l r lo hi tl tr sg TL n)) := by
  replace hrd := Hold.mk hrd
  refine Cr.ofD fun F hF hT => ?_
  subst hF
  (refine DCall.inlP (l := _) Try.func72 Try.ntmps72 rfl rfl (by simp only [seval, List.length_cons, List.length_nil]) (by simp only [seval, List.length_cons, List.length_nil]) ?_; simp only [Try.results72, List.map_cons, List.map_nil])
  repeat' (first | (with_reducible refine at_seq (by with_unfolding_all exact rfl) ?_) | ((first | (with_reducible refine at_plain (by with_unfolding_all exact rfl) ?_) | (with_reducible refine at_draw (by with_unfolding_all exact rfl) ?_) | (with_reducible refine at_cond (by with_unfolding_all exact rfl) ?_) | (with_reducible refine at_exit (by with_unfolding_all exact rfl) ?_) | (with_reducible refine at_ret (by with_unfolding_all exact rfl) ?_) | (with_reducible refine at_skip (by with_unfolding_all exact rfl) ?_) | (with_reducible refine at_label (by with_unfolding_all exact rfl) ?_)) <;> try simp -implicitDefEqProofs (maxSteps := 1000000) only [go_sem, seval, *]) | (with_reducible refine at_block (by with_unfolding_all exact rfl) ?_) | (with_reducible refine at_loop (by with_unfolding_all exact rfl) ?_) | ((first | ((with_reducible refine NewK.intro fun g hg hn => ?_) <;> try simp only [own_none_iff] at hn) | ((with_reducible refine GuardB.split (fun hc => ?_) (fun hc => ?_)) <;> (have hc2 := hc; try simp only [beq_eq_false_iff_ne, beq_iff_eq, ne_eq, bne_iff_ne, bne_eq_false_iff_eq, decide_eq_true_eq, decide_eq_false_iff_not, Bool.not_true, Bool.not_false, Int.not_le, Int.not_lt] at hc2)) | ((with_reducible refine CondK.split (fun hc => ?_) (fun hc => ?_)) <;> (have hc2 := hc; try simp only [beq_eq_false_iff_ne, beq_iff_eq, ne_eq, bne_iff_ne, bne_eq_false_iff_eq, decide_eq_true_eq, decide_eq_false_iff_not, Bool.not_true, Bool.not_false, Int.not_le, Int.not_lt] at hc2)) | ((with_reducible refine PickK.split (fun hc => ?_) (fun hc => ?_)) <;> (have hc2 := hc; try simp only [beq_eq_false_iff_ne, beq_iff_eq, ne_eq, bne_iff_ne, bne_eq_false_iff_eq, decide_eq_true_eq, decide_eq_false_iff_not, Bool.not_true, Bool.not_false, Int.not_le, Int.not_lt] at hc2)) | (with_reducible refine dop_buildSlice ?_) | (with_reducible refine dop_build ?_) | ((with_reducible refine DDraw.told (id := 5) [0, 7] [.tmp 7, .tmp 8] mo ?_ ?_); kernel_rfl) | ((with_reducible refine GuardD.split (fun hc => ?_) (fun hc => ?_)) <;> (have hc2 := hc; try simp only [beq_eq_false_iff_ne, beq_iff_eq, ne_eq, bne_iff_ne, bne_eq_false_iff_eq, decide_eq_true_eq, decide_eq_false_iff_not, Bool.not_true, Bool.not_false, Int.not_le, Int.not_lt] at hc2)) | (with_reducible refine stp_build ?_) | (with_reducible refine stp_buildSlice ?_) | (with_reducible refine stp_store ?_) | (with_reducible refine stp_ns ?_) | (with_reducible refine NsB.intro (fun h' ho K' hk => by simp -implicitDefEqProofs (maxSteps := 1000000) only [go_sem, seval, *] <;> exact hk) ?_) | (with_reducible refine WrB.intro _ (by simp -implicitDefEqProofs (maxSteps := 1000000) only [go_sem, seval, *]) (fun h' ho K' hk => by simp -implicitDefEqProofs (maxSteps := 1000000) only [go_sem, seval, *]; exact hk) (fun h' ho K' hk => by simp -implicitDefEqProofs (maxSteps := 1000000) only [go_sem, seval, *] at hk; exact hk) (fun h' ho hk => by simp -implicitDefEqProofs (maxSteps := 1000000) only [go_sem, seval, *] at hk <;> with_unfolding_all exact False.elim hk) ?_) | (with_reducible refine WrB.intro _ (by simp -implicitDefEqProofs (maxSteps := 1000000) only [go_sem, seval, *]) (fun h' ho K' hk => by simp -implicitDefEqProofs (maxSteps := 1000000) only [go_sem, seval, *]; exact hk) ?_) | ((with_reducible refine DDraw.auto mo ?_ ?_); kernel_rfl)) <;> simp -implicitDefEqProofs (maxSteps := 1000000) only [go_sem, seval, *]) | (with_reducible refine bi_same ?_))
  (refine DCall.inlP (l := _) Try.func109 Try.ntmps109 rfl rfl (by simp only [seval, List.length_cons, List.length_nil]) (by simp only [seval, List.length_cons, List.length_nil]) ?_; simp only [Try.results109, List.map_cons, List.map_nil])
  repeat' (first | (with_reducible refine at_seq (by with_unfolding_all exact rfl) ?_) | ((first | (with_reducible refine at_plain (by with_unfolding_all exact rfl) ?_) | (with_reducible refine at_draw (by with_unfolding_all exact rfl) ?_) | (with_reducible refine at_cond (by with_unfolding_all exact rfl) ?_) | (with_reducible refine at_exit (by with_unfolding_all exact rfl) ?_) | (with_reducible refine at_ret (by with_unfolding_all exact rfl) ?_) | (with_reducible refine at_skip (by with_unfolding_all exact rfl) ?_) | (with_reducible refine at_label (by with_unfolding_all exact rfl) ?_)) <;> try simp -implicitDefEqProofs (maxSteps := 1000000) only [go_sem, seval, *]) | (with_reducible refine at_block (by with_unfolding_all exact rfl) ?_) | (with_reducible refine at_loop (by with_unfolding_all exact rfl) ?_) | ((first | ((with_reducible refine NewK.intro fun g hg hn => ?_) <;> try simp only [own_none_iff] at hn) | ((with_reducible refine GuardB.split (fun hc => ?_) (fun hc => ?_)) <;> (have hc2 := hc; try simp only [beq_eq_false_iff_ne, beq_iff_eq, ne_eq, bne_iff_ne, bne_eq_false_iff_eq, decide_eq_true_eq, decide_eq_false_iff_not, Bool.not_true, Bool.not_false, Int.not_le, Int.not_lt] at hc2)) | ((with_reducible refine CondK.split (fun hc => ?_) (fun hc => ?_)) <;> (have hc2 := hc; try simp only [beq_eq_false_iff_ne, beq_iff_eq, ne_eq, bne_iff_ne, bne_eq_false_iff_eq, decide_eq_true_eq, decide_eq_false_iff_not, Bool.not_true, Bool.not_false, Int.not_le, Int.not_lt] at hc2)) | ((with_reducible refine PickK.split (fun hc => ?_) (fun hc => ?_)) <;> (have hc2 := hc; try simp only [beq_eq_false_iff_ne, beq_iff_eq, ne_eq, bne_iff_ne, bne_eq_false_iff_eq, decide_eq_true_eq, decide_eq_false_iff_not, Bool.not_true, Bool.not_false, Int.not_le, Int.not_lt] at hc2)) | (with_reducible refine dop_buildSlice ?_) | (with_reducible refine dop_build ?_) | ((with_reducible refine GuardD.split (fun hc => ?_) (fun hc => ?_)) <;> (have hc2 := hc; try simp only [beq_eq_false_iff_ne, beq_iff_eq, ne_eq, bne_iff_ne, bne_eq_false_iff_eq, decide_eq_true_eq, decide_eq_false_iff_not, Bool.not_true, Bool.not_false, Int.not_le, Int.not_lt] at hc2)) | (with_reducible refine stp_build ?_) | (with_reducible refine stp_buildSlice ?_) | (with_reducible refine stp_store ?_) | (with_reducible refine stp_ns ?_) | (with_reducible refine NsB.intro (fun h' ho K' hk => by simp -implicitDefEqProofs (maxSteps := 1000000) only [go_sem, seval, *] <;> exact hk) ?_) | (with_reducible refine WrB.intro _ (by simp -implicitDefEqProofs (maxSteps := 1000000) only [go_sem, seval, *]) (fun h' ho K' hk => by simp -implicitDefEqProofs (maxSteps := 1000000) only [go_sem, seval, *]; exact hk) (fun h' ho K' hk => by simp -implicitDefEqProofs (maxSteps := 1000000) only [go_sem, seval, *] at hk; exact hk) (fun h' ho hk => by simp -implicitDefEqProofs (maxSteps := 1000000) only [go_sem, seval, *] at hk <;> with_unfolding_all exact False.elim hk) ?_) | (with_reducible refine WrB.intro _ (by simp -implicitDefEqProofs (maxSteps := 1000000) only [go_sem, seval, *]) (fun h' ho K' hk => by simp -implicitDefEqProofs (maxSteps := 1000000) only [go_sem, seval, *]; exact hk) ?_) | ((with_reducible refine DDraw.auto mo ?_ ?_); kernel_rfl)) <;> simp -implicitDefEqProofs (maxSteps := 1000000) only [go_sem, seval, *]) | (with_reducible refine bi_same ?_))
  rename_i g3 hg3 hn3 g4 hg4 hn4 g5 hg5 hn5 g7 hg7 hn7 g8 hg8 hn8 b2 hb2 hnb2
  generalize hgg : g = b1 at *
  clear hgg
  refine at_rangeFunc (by with_unfolding_all exact rfl) ?_
  refine DWp.rangeFunc (gf := 137) (lb := #[.pointer (some ⟨b1, 0, none⟩), .pointer (some ⟨b2, 0, none⟩)]) hT (by simp -implicitDefEqProofs (maxSteps := 1000000) only [go_sem, seval, *]) (by unfold entB; rw [Try.func137]; rfl) (fun D hD1 hD2 L hL1 hL2 fn => ?_)
  simp only [own_none_iff] at hD2 hL2
  generalize hrec : recL fn _ _ _ _ D = rec
  have es : rec.state = .ready := by rw [← hrec]; rfl
  have en : rec.pending = none := by rw [← hrec]; rfl
  have ea : rec.assign = _ := congrArg Loop.assign hrec.symm
  have eb : rec.body = _ := congrArg Loop.body hrec.symm
  have et : rec.tmps = _ := congrArg Loop.tmps hrec.symm
  have ep : rec.params = _ := congrArg Loop.params hrec.symm
  simp only [recL] at ea eb et ep
  replace ea := Hold.mk ea
  replace eb := Hold.mk eb
  replace et := Hold.mk et
  replace ep := Hold.mk ep
  have er : ({ state := .ready, pending := none, fn := rec.fn, tmps := rec.tmps, params := rec.params, assign := rec.assign, body := rec.body, defers := rec.defers } : Loop) = rec := by rw [← hrec]; rfl
  obtain ⟨S, hSd⟩ : ∃ S, S = ((((Hp.none_.set g3 (.cells #[.int .i64 p, .int .i64 l, .int .i64 r, .int .i64 ua, .int .i64 ub, .int .i64 us, .bool lh, .int .i64 ut, .int .i64 lo, .int .i64 hi] 132)).set g4 (.cells #[.slice (some ⟨b, 0, none⟩) n c, .int .i64 tl, .int .i64 tr] 67)).set g5 (.cells #[.int .i64 sg] 3)).set b2 (.cells #[.int .i64 p, .int .i64 l, .int .i64 r, .int .i64 ua, .int .i64 ub, .int .i64 us, .bool lh, .int .i64 ut, .int .i64 lo, .int .i64 hi] 132)).set b1 (.cells #[.slice (some ⟨b, 0, none⟩) n c, .int .i64 tl, .int .i64 tr] 67) := ⟨_, rfl⟩
  have sL : S.own L = none := by rw [hSd]; simp -implicitDefEqProofs (maxSteps := 1000000) only [go_sem, seval, *]
  have sD : S.own D = none := by rw [hSd]; simp -implicitDefEqProofs (maxSteps := 1000000) only [go_sem, seval, *]
  have s7 : S.own g7 = none := by rw [hSd]; simp -implicitDefEqProofs (maxSteps := 1000000) only [go_sem, seval, *]
  have s8 : S.own g8 = none := by rw [hSd]; simp -implicitDefEqProofs (maxSteps := 1000000) only [go_sem, seval, *]
  show DCall Try.prog F 137 #[.func (.yield L) #[] #[], .pointer (some ⟨b1, 0, none⟩), .pointer (some ⟨b2, 0, none⟩)] _ _
  refine flanks_D F _ _ n b c b1 b2 L p l r ua ub us ut tl tr lo hi lh TL S (SzI F S L D g7 g8 rec (lfF p sg TL) (rfF p sg TL)) ⟨hv.out.hn.2, hv.out.len⟩ ⟨okT_mem (by decide) hv.out.ok⟩ hp (by rw [hSd]; simp -implicitDefEqProofs (maxSteps := 1000000) only [go_sem, seval, *]) (by rw [hSd]; simp -implicitDefEqProofs (maxSteps := 1000000) only [go_sem, seval, *]) ⟨readV_mono (fun a u e => Hp.cell_ro e) hrd.out⟩ hg hb2 ⟨fun j h' q => ⟨q.1, rec, q.2.1, by rw [ep.out]; rfl⟩⟩ ⟨fun j h' g o q hn => q.fresh hn⟩ ⟨?_⟩ ?_ ⟨?_⟩
  · intro j h' K' x hx q hk rr hrr
    have uO : h'.own g5 = some (.cells #[.int .i64 sg] 3) := q.1 g5 _ (by rw [hSd]; simp -implicitDefEqProofs (maxSteps := 1000000) only [go_sem, seval, *])
    obtain ⟨m0, m1, m2, v1, v2, m3, m4, o1, o2, d1, d2⟩ := q
    obtain rfl : rec = rr := by rw [m1] at hrr; cases hrr; rfl
    have hjn : j < n := by rw [← hv.out.len]; exact (List.getElem?_eq_some_iff.1 hx).1
    have xm := okT_mem (by decide) hv.out.ok x (List.mem_of_getElem? hx)
    have pb := hp.out
    have nb := hv.out.hn
    have m := mul_bd (a := 4 * (j : Int)) (b := p) (A := 240) (B := 200000) (by omega) (by omega) (by omega) (by omega)
    have fb : -100000000000000 ≤ flL p x j ∧ flL p x j ≤ 100000000000000 := by unfold flL; omega
    have gb : -100000000000000 ≤ flR p x j ∧ flR p x j ≤ 100000000000000 := by unfold flR; omega
    have sb := hsg.out
    have e0 : IntKind.i64.wrap (0 - sg) = -sg := by rw [IntWalk.i64_in _ (by omega)]; omega
    have e1 : IntKind.i64.wrap (-sg * flL p x j) = -sg * flL p x j := IntWalk.i64_in _ (by rcases sb with rfl | rfl <;> omega)
    have e2 : IntKind.i64.wrap (sg * flR p x j) = sg * flR p x j := IntWalk.i64_in _ (by rcases sb with rfl | rfl <;> omega)
    have gx : TL.getD j (0, 0) = x := by rw [List.getD_eq_getElem?_getD, hx]; rfl
    have lS : lfF p sg TL (j + 1) = lfF p sg TL j ++ [-sg * flL p x j] := by unfold lfF; rw [List.range_succ, List.map_append]; simp only [List.map_cons, List.map_nil, gx]
    have rS : rfF p sg TL (j + 1) = rfF p sg TL j ++ [sg * flR p x j] := by unfold rfF; rw [List.range_succ, List.map_append]; simp only [List.map_cons, List.map_nil, gx]
    clear xm pb nb m fb gb sb gx hx
    generalize flL p x j = fa at *
    generalize flR p x j = fb at *
    have s5 : S.own g5 = some (.cells #[.int .i64 sg] 3) := by rw [hSd]; simp -implicitDefEqProofs (maxSteps := 1000000) only [go_sem, seval, *]
    have y15 : blk v1 ≠ some g5 := fun e => by have := (d1 g5 (.inl e)).1; rw [s5] at this; cases this
    have y25 : blk v2 ≠ some g5 := fun e => by have := (d1 g5 (.inr e)).1; rw [s5] at this; cases this
    have y17 : blk v1 ≠ some g7 := fun e => (d1 g7 (.inl e)).2.2.2.1 rfl
    have y27 : blk v2 ≠ some g7 := fun e => (d1 g7 (.inr e)).2.2.2.1 rfl
    have y18 : blk v1 ≠ some g8 := fun e => (d1 g8 (.inl e)).2.2.2.2 rfl
    have y28 : blk v2 ≠ some g8 := fun e => (d1 g8 (.inr e)).2.2.2.2 rfl
    have y1L : blk v1 ≠ some L := fun e => (d1 L (.inl e)).2.1 rfl
    have y2L : blk v2 ≠ some L := fun e => (d1 L (.inr e)).2.1 rfl
    have y1D : blk v1 ≠ some D := fun e => (d1 D (.inl e)).2.2.1 rfl
    have y2D : blk v2 ≠ some D := fun e => (d1 D (.inr e)).2.2.1 rfl
    clear s5
    have w1 := own_ne m1
    have w2 := own_ne m2
    have w3 := own_ne m3
    have w4 := own_ne m4
    have w5 := own_ne uO
    replace hk := Hold.mk hk
    replace hSd := Hold.mk hSd
    clear hrr
    refine DRound.intro ?_
    simp only [ea.out, eb.out, et.out, ep.out, fold2]
    clear hrec
    simp -implicitDefEqProofs (maxSteps := 1000000) only [go_sem, seval, *]
    repeat' (first | (with_reducible refine at_seq (by with_unfolding_all exact rfl) ?_) | ((first | (with_reducible refine at_plain (by with_unfolding_all exact rfl) ?_) | (with_reducible refine at_draw (by with_unfolding_all exact rfl) ?_) | (with_reducible refine at_cond (by with_unfolding_all exact rfl) ?_) | (with_reducible refine at_exit (by with_unfolding_all exact rfl) ?_) | (with_reducible refine at_ret (by with_unfolding_all exact rfl) ?_) | (with_reducible refine at_skip (by with_unfolding_all exact rfl) ?_) | (with_reducible refine at_label (by with_unfolding_all exact rfl) ?_)) <;> try simp -implicitDefEqProofs (maxSteps := 1000000) only [go_sem, seval, *]) | (with_reducible refine at_block (by with_unfolding_all exact rfl) ?_) | (with_reducible refine at_loop (by with_unfolding_all exact rfl) ?_) | ((first | ((with_reducible refine NewK.intro_inr fun g hg hn => ?_); try simp only [own_none_iff] at hn) | ((with_reducible refine DDraw.lasts (id := 5) [0] [.tmp 7, .const v1, .const v2] mo ?_ ?_); kernel_rfl) | ((with_reducible refine NewK.intro fun g hg hn => ?_) <;> try simp only [own_none_iff] at hn) | ((with_reducible refine GuardB.split (fun hc => ?_) (fun hc => ?_)) <;> (have hc2 := hc; try simp only [beq_eq_false_iff_ne, beq_iff_eq, ne_eq, bne_iff_ne, bne_eq_false_iff_eq, decide_eq_true_eq, decide_eq_false_iff_not, Bool.not_true, Bool.not_false, Int.not_le, Int.not_lt] at hc2)) | ((with_reducible refine CondK.split (fun hc => ?_) (fun hc => ?_)) <;> (have hc2 := hc; try simp only [beq_eq_false_iff_ne, beq_iff_eq, ne_eq, bne_iff_ne, bne_eq_false_iff_eq, decide_eq_true_eq, decide_eq_false_iff_not, Bool.not_true, Bool.not_false, Int.not_le, Int.not_lt] at hc2)) | ((with_reducible refine PickK.split (fun hc => ?_) (fun hc => ?_)) <;> (have hc2 := hc; try simp only [beq_eq_false_iff_ne, beq_iff_eq, ne_eq, bne_iff_ne, bne_eq_false_iff_eq, decide_eq_true_eq, decide_eq_false_iff_not, Bool.not_true, Bool.not_false, Int.not_le, Int.not_lt] at hc2)) | (with_reducible refine dop_buildSlice ?_) | (with_reducible refine dop_build ?_) | ((with_reducible refine GuardD.split (fun hc => ?_) (fun hc => ?_)) <;> (have hc2 := hc; try simp only [beq_eq_false_iff_ne, beq_iff_eq, ne_eq, bne_iff_ne, bne_eq_false_iff_eq, decide_eq_true_eq, decide_eq_false_iff_not, Bool.not_true, Bool.not_false, Int.not_le, Int.not_lt] at hc2)) | (with_reducible refine stp_build ?_) | (with_reducible refine stp_buildSlice ?_) | (with_reducible refine stp_store ?_) | (with_reducible refine stp_ns ?_) | (with_reducible refine NsB.intro (fun h' ho K' hk => by simp -implicitDefEqProofs (maxSteps := 1000000) only [go_sem, seval, *] <;> exact hk) ?_) | (with_reducible refine WrB.intro _ (by simp -implicitDefEqProofs (maxSteps := 1000000) only [go_sem, seval, *]) (fun h' ho K' hk => by simp -implicitDefEqProofs (maxSteps := 1000000) only [go_sem, seval, *]; exact hk) (fun h' ho K' hk => by simp -implicitDefEqProofs (maxSteps := 1000000) only [go_sem, seval, *] at hk; exact hk) (fun h' ho hk => by simp -implicitDefEqProofs (maxSteps := 1000000) only [go_sem, seval, *] at hk <;> with_unfolding_all exact False.elim hk) ?_) | (with_reducible refine WrB.intro _ (by simp -implicitDefEqProofs (maxSteps := 1000000) only [go_sem, seval, *]) (fun h' ho K' hk => by simp -implicitDefEqProofs (maxSteps := 1000000) only [go_sem, seval, *]; exact hk) ?_) | ((with_reducible refine DDraw.auto mo ?_ ?_); kernel_rfl)) <;> simp -implicitDefEqProofs (maxSteps := 1000000) only [go_sem, seval, *]) | (with_reducible refine bi_same ?_))
    have bo1 := (o1.other (ob := .loop { state := .busy, pending := none, fn := rec.fn, tmps := rec.tmps, params := rec.params, assign := rec.assign, body := rec.body, defers := rec.defers }) y1L).other (g := g) (ob := .cells #[.int .i64 (-sg * fa)] 3) (o1.nblk g hn.2.2)
    have bo2 := (o2.other (ob := .loop { state := .busy, pending := none, fn := rec.fn, tmps := rec.tmps, params := rec.params, assign := rec.assign, body := rec.body, defers := rec.defers }) y2L).other (g := g) (ob := .cells #[.int .i64 (-sg * fa)] 3) (o2.nblk g hn.2.2)
    have hg1 : F.w0.heap.size ≤ g := hg
    have nb := hv.out.hn
    refine AppD.draw (F := F.inr) Try.underlying80 inf_intT (by decide) (by decide) bo1 (ys := [.int .i64 (-sg * fa)]) (by simp -implicitDefEqProofs (maxSteps := 1000000) only [go_sem, seval, *]) one_aggT (by omega) (fun b hb => dropV_none (.inr (dropV_none (.inl hb)))) fun u1 gA obA hA bA r1 => ?_
    have nA := fresh_blk hA bo2 d2
    have aL := ne2 (fresh_ne (x := L) hA y1L (by simp -implicitDefEqProofs (maxSteps := 1000000) only [go_sem, seval, *]; rfl))
    have aD := ne2 (fresh_ne (x := D) hA y1D (by simp -implicitDefEqProofs (maxSteps := 1000000) only [go_sem, seval, *]; rfl))
    have a7 := ne2 (fresh_ne (x := g7) hA y17 (by simp -implicitDefEqProofs (maxSteps := 1000000) only [go_sem, seval, *]; rfl))
    have a8 := ne2 (fresh_ne (x := g8) hA y18 (by simp -implicitDefEqProofs (maxSteps := 1000000) only [go_sem, seval, *]; rfl))
    have a5 := ne2 (fresh_ne (x := g5) hA y15 (by simp -implicitDefEqProofs (maxSteps := 1000000) only [go_sem, seval, *]; rfl))
    have sA : S.own gA = none := by
      rcases hA with e | ⟨e, _⟩
      · exact (d1 gA (.inl e)).1
      · simp only [own_none_iff] at e
        exact kept_none m0 e.2.2.2.2
    have co2 := bo2.other (ob := obA) nA
    obtain ⟨pu, cu, rfl⟩ := r1.len
    have pg1 := hn
    rename_i g1
    generalize hgq : g = gq at *
    clear hgq
    simp -implicitDefEqProofs (maxSteps := 1000000) only [go_sem, seval, *]
    repeat' (first | (with_reducible refine at_seq (by with_unfolding_all exact rfl) ?_) | ((first | (with_reducible refine at_plain (by with_unfolding_all exact rfl) ?_) | (with_reducible refine at_draw (by with_unfolding_all exact rfl) ?_) | (with_reducible refine at_cond (by with_unfolding_all exact rfl) ?_) | (with_reducible refine at_exit (by with_unfolding_all exact rfl) ?_) | (with_reducible refine at_ret (by with_unfolding_all exact rfl) ?_) | (with_reducible refine at_skip (by with_unfolding_all exact rfl) ?_) | (with_reducible refine at_label (by with_unfolding_all exact rfl) ?_)) <;> try simp -implicitDefEqProofs (maxSteps := 1000000) only [go_sem, seval, *]) | (with_reducible refine at_block (by with_unfolding_all exact rfl) ?_) | (with_reducible refine at_loop (by with_unfolding_all exact rfl) ?_) | ((first | ((with_reducible refine NewK.intro_inr fun g hg hn => ?_); try simp only [own_none_iff] at hn) | ((with_reducible refine NewK.intro fun g hg hn => ?_) <;> try simp only [own_none_iff] at hn) | ((with_reducible refine GuardB.split (fun hc => ?_) (fun hc => ?_)) <;> (have hc2 := hc; try simp only [beq_eq_false_iff_ne, beq_iff_eq, ne_eq, bne_iff_ne, bne_eq_false_iff_eq, decide_eq_true_eq, decide_eq_false_iff_not, Bool.not_true, Bool.not_false, Int.not_le, Int.not_lt] at hc2)) | ((with_reducible refine CondK.split (fun hc => ?_) (fun hc => ?_)) <;> (have hc2 := hc; try simp only [beq_eq_false_iff_ne, beq_iff_eq, ne_eq, bne_iff_ne, bne_eq_false_iff_eq, decide_eq_true_eq, decide_eq_false_iff_not, Bool.not_true, Bool.not_false, Int.not_le, Int.not_lt] at hc2)) | ((with_reducible refine PickK.split (fun hc => ?_) (fun hc => ?_)) <;> (have hc2 := hc; try simp only [beq_eq_false_iff_ne, beq_iff_eq, ne_eq, bne_iff_ne, bne_eq_false_iff_eq, decide_eq_true_eq, decide_eq_false_iff_not, Bool.not_true, Bool.not_false, Int.not_le, Int.not_lt] at hc2)) | (with_reducible refine dop_buildSlice ?_) | (with_reducible refine dop_build ?_) | ((with_reducible refine GuardD.split (fun hc => ?_) (fun hc => ?_)) <;> (have hc2 := hc; try simp only [beq_eq_false_iff_ne, beq_iff_eq, ne_eq, bne_iff_ne, bne_eq_false_iff_eq, decide_eq_true_eq, decide_eq_false_iff_not, Bool.not_true, Bool.not_false, Int.not_le, Int.not_lt] at hc2)) | (with_reducible refine stp_build ?_) | (with_reducible refine stp_buildSlice ?_) | (with_reducible refine stp_store ?_) | (with_reducible refine stp_ns ?_) | (with_reducible refine NsB.intro (fun h' ho K' hk => by simp -implicitDefEqProofs (maxSteps := 1000000) only [go_sem, seval, *] <;> exact hk) ?_) | (with_reducible refine WrB.intro _ (by simp -implicitDefEqProofs (maxSteps := 1000000) only [go_sem, seval, *]) (fun h' ho K' hk => by simp -implicitDefEqProofs (maxSteps := 1000000) only [go_sem, seval, *]; exact hk) (fun h' ho K' hk => by simp -implicitDefEqProofs (maxSteps := 1000000) only [go_sem, seval, *] at hk; exact hk) (fun h' ho hk => by simp -implicitDefEqProofs (maxSteps := 1000000) only [go_sem, seval, *] at hk <;> with_unfolding_all exact False.elim hk) ?_) | (with_reducible refine WrB.intro _ (by simp -implicitDefEqProofs (maxSteps := 1000000) only [go_sem, seval, *]) (fun h' ho K' hk => by simp -implicitDefEqProofs (maxSteps := 1000000) only [go_sem, seval, *]; exact hk) ?_) | ((with_reducible refine DDraw.auto mo ?_ ?_); kernel_rfl)) <;> simp -implicitDefEqProofs (maxSteps := 1000000) only [go_sem, seval, *]) | (with_reducible refine bi_same ?_))
    have pg2 := hn
    have hg2 : F.w0.heap.size ≤ g := hg
    have do2 := co2.other (g := g) (ob := .cells #[.int .i64 (sg * fb)] 3) (co2.nblk g (by simp -implicitDefEqProofs (maxSteps := 1000000) only [go_sem, seval, *]))
    refine AppD.draw (F := F.inr) Try.underlying80 inf_intT (by decide) (by decide) do2 (ys := [.int .i64 (sg * fb)]) (by simp -implicitDefEqProofs (maxSteps := 1000000) only [go_sem, seval, *]) one_aggT (by omega) (fun b hb => dropV_none (.inl hb)) fun u2 gB obB hB bB r2 => ?_
    have bL := ne2 (fresh_ne (x := L) hB y2L (by simp -implicitDefEqProofs (maxSteps := 1000000) only [go_sem, seval, *]; rfl))
    have bD := ne2 (fresh_ne (x := D) hB y2D (by simp -implicitDefEqProofs (maxSteps := 1000000) only [go_sem, seval, *]; rfl))
    have b7 := ne2 (fresh_ne (x := g7) hB y27 (by simp -implicitDefEqProofs (maxSteps := 1000000) only [go_sem, seval, *]; rfl))
    have b8 := ne2 (fresh_ne (x := g8) hB y28 (by simp -implicitDefEqProofs (maxSteps := 1000000) only [go_sem, seval, *]; rfl))
    have b5 := ne2 (fresh_ne (x := g5) hB y25 (by simp -implicitDefEqProofs (maxSteps := 1000000) only [go_sem, seval, *]; rfl))
    have bAB := ne2 (fresh_ne (x := gA) hB nA (by simp -implicitDefEqProofs (maxSteps := 1000000) only [go_sem, seval, *]; rfl))
    have sB : S.own gB = none := by
      rcases hB with e | ⟨e, _⟩
      · exact (d1 gB (.inr e)).1
      · simp only [own_none_iff] at e
        exact kept_none m0 e.2.2.2.2.2.2.2.2
    obtain ⟨pv, cv, rfl⟩ := r2.len
    have ra := (r1.other (g := g) (ob := .cells #[.int .i64 (sg * fb)] 3) (r1.nblk g (by simp -implicitDefEqProofs (maxSteps := 1000000) only [go_sem, seval, *]))).other (g := gB) (ob := obB) (by rw [bA]; intro e; cases e; exact bAB.1 rfl)
    have keepS : Hold (∀ y o, S.own y = some o → y ≠ L ∧ y ≠ gA ∧ y ≠ gB ∧ y ≠ gq ∧ y ≠ g ∧ y ≠ g7 ∧ y ≠ g8 ∧ h'.own y = some o) := ⟨fun y o e => by
      have e1 := m0 y o e
      have n1 := own_ne e1
      refine ⟨?_, ?_, ?_, (n1 gq pg1.2.2).1, (n1 g pg2.2.2.2.2.2.2).1, ?_, ?_, e1⟩
      · rintro rfl; rw [sL] at e; cases e
      · rintro rfl; rw [sA] at e; cases e
      · rintro rfl; rw [sB] at e; cases e
      · rintro rfl; rw [s7] at e; cases e
      · rintro rfl; rw [s8] at e; cases e⟩
    clear hA hB bo1 bo2 co2 do2 r1 o1 o2 m0 y15 y25 y18 y28 y1L y2L y1D y2D nA d1 d2
    simp -implicitDefEqProofs (maxSteps := 1000000) only [go_sem, seval, *]
    repeat' (first | (with_reducible refine at_seq (by with_unfolding_all exact rfl) ?_) | ((first | (with_reducible refine at_plain (by with_unfolding_all exact rfl) ?_) | (with_reducible refine at_draw (by with_unfolding_all exact rfl) ?_) | (with_reducible refine at_cond (by with_unfolding_all exact rfl) ?_) | (with_reducible refine at_exit (by with_unfolding_all exact rfl) ?_) | (with_reducible refine at_ret (by with_unfolding_all exact rfl) ?_) | (with_reducible refine at_skip (by with_unfolding_all exact rfl) ?_) | (with_reducible refine at_label (by with_unfolding_all exact rfl) ?_)) <;> try simp -implicitDefEqProofs (maxSteps := 1000000) only [go_sem, seval, *]) | (with_reducible refine at_block (by with_unfolding_all exact rfl) ?_) | (with_reducible refine at_loop (by with_unfolding_all exact rfl) ?_) | ((first | ((with_reducible refine NewK.intro fun g hg hn => ?_) <;> try simp only [own_none_iff] at hn) | ((with_reducible refine GuardB.split (fun hc => ?_) (fun hc => ?_)) <;> (have hc2 := hc; try simp only [beq_eq_false_iff_ne, beq_iff_eq, ne_eq, bne_iff_ne, bne_eq_false_iff_eq, decide_eq_true_eq, decide_eq_false_iff_not, Bool.not_true, Bool.not_false, Int.not_le, Int.not_lt] at hc2)) | ((with_reducible refine CondK.split (fun hc => ?_) (fun hc => ?_)) <;> (have hc2 := hc; try simp only [beq_eq_false_iff_ne, beq_iff_eq, ne_eq, bne_iff_ne, bne_eq_false_iff_eq, decide_eq_true_eq, decide_eq_false_iff_not, Bool.not_true, Bool.not_false, Int.not_le, Int.not_lt] at hc2)) | ((with_reducible refine PickK.split (fun hc => ?_) (fun hc => ?_)) <;> (have hc2 := hc; try simp only [beq_eq_false_iff_ne, beq_iff_eq, ne_eq, bne_iff_ne, bne_eq_false_iff_eq, decide_eq_true_eq, decide_eq_false_iff_not, Bool.not_true, Bool.not_false, Int.not_le, Int.not_lt] at hc2)) | (with_reducible refine dop_buildSlice ?_) | (with_reducible refine dop_build ?_) | ((with_reducible refine GuardD.split (fun hc => ?_) (fun hc => ?_)) <;> (have hc2 := hc; try simp only [beq_eq_false_iff_ne, beq_iff_eq, ne_eq, bne_iff_ne, bne_eq_false_iff_eq, decide_eq_true_eq, decide_eq_false_iff_not, Bool.not_true, Bool.not_false, Int.not_le, Int.not_lt] at hc2)) | (with_reducible refine stp_build ?_) | (with_reducible refine stp_buildSlice ?_) | (with_reducible refine stp_store ?_) | (with_reducible refine stp_ns ?_) | (with_reducible refine NsB.intro (fun h' ho K' hk => by simp -implicitDefEqProofs (maxSteps := 1000000) only [go_sem, seval, *] <;> exact hk) ?_) | (with_reducible refine WrB.intro _ (by simp -implicitDefEqProofs (maxSteps := 1000000) only [go_sem, seval, *]) (fun h' ho K' hk => by simp -implicitDefEqProofs (maxSteps := 1000000) only [go_sem, seval, *]; exact hk) (fun h' ho K' hk => by simp -implicitDefEqProofs (maxSteps := 1000000) only [go_sem, seval, *] at hk; exact hk) (fun h' ho hk => by simp -implicitDefEqProofs (maxSteps := 1000000) only [go_sem, seval, *] at hk <;> with_unfolding_all exact False.elim hk) ?_) | (with_reducible refine WrB.intro _ (by simp -implicitDefEqProofs (maxSteps := 1000000) only [go_sem, seval, *]) (fun h' ho K' hk => by simp -implicitDefEqProofs (maxSteps := 1000000) only [go_sem, seval, *]; exact hk) ?_) | ((with_reducible refine DDraw.auto mo ?_ ?_); kernel_rfl)) <;> simp -implicitDefEqProofs (maxSteps := 1000000) only [go_sem, seval, *]) | (with_reducible refine bi_same ?_))
    refine hk.out _ ?_
    refine ⟨fun y o e => ?_, by simp -implicitDefEqProofs (maxSteps := 1000000) only [go_sem, seval, *], by simp -implicitDefEqProofs (maxSteps := 1000000) only [go_sem, seval, *], .slice pu (j + 1) cu, .slice pv (j + 1) cv, by simp -implicitDefEqProofs (maxSteps := 1000000) only [go_sem, seval, *], by simp -implicitDefEqProofs (maxSteps := 1000000) only [go_sem, seval, *], ?_, ?_, ?_, ?_⟩
    · obtain ⟨n1, n2, n3, n4, n5, n6, n7, e1⟩ := keepS.out y o e
      rw [Hp.own_set, if_neg n1, Hp.own_set, if_neg n7, Hp.own_set, if_neg n6, Hp.own_set, if_neg n3, Hp.own_set, if_neg n5, Hp.own_set, if_neg n2, Hp.own_set, if_neg n4, Hp.own_set, if_neg n1]
      exact e1
    · rw [lS, ints_snoc]
      exact ((ra.other (by rw [bA]; intro e; cases e; exact a7.1 rfl)).other (by rw [bA]; intro e; cases e; exact a8.1 rfl)).other (by rw [bA]; intro e; cases e; exact aL.1 rfl)
    · rw [rS, ints_snoc]
      exact ((r2.other (by rw [bB]; intro e; cases e; exact b7.1 rfl)).other (by rw [bB]; intro e; cases e; exact b8.1 rfl)).other (by rw [bB]; intro e; cases e; exact bL.1 rfl)
    · rintro x (e | e)
      · rw [bA] at e; cases e; exact ⟨sA, aL.1, aD.1, a7.1, a8.1⟩
      · rw [bB] at e; cases e; exact ⟨sB, bL.1, bD.1, b7.1, b8.1⟩
    · intro x e
      rw [bA] at e; cases e
      rw [bB]; intro e; cases e; exact bAB.1 rfl
  · refine ⟨fun y o e => ?_, by simp -implicitDefEqProofs (maxSteps := 1000000) only [go_sem, seval, *], by simp -implicitDefEqProofs (maxSteps := 1000000) only [go_sem, seval, *], .slice none 0 0, .slice none 0 0, by simp -implicitDefEqProofs (maxSteps := 1000000) only [go_sem, seval, *], by simp -implicitDefEqProofs (maxSteps := 1000000) only [go_sem, seval, *], Own.nil, Own.nil, by simp [blk], by simp [blk]⟩
    have yL : (y = L) = False := eq_false (by rintro rfl; rw [sL] at e; cases e)
    have yD : (y = D) = False := eq_false (by rintro rfl; rw [sD] at e; cases e)
    have y7 : (y = g7) = False := eq_false (by rintro rfl; rw [s7] at e; cases e)
    have y8 : (y = g8) = False := eq_false (by rintro rfl; rw [s8] at e; cases e)
    rw [hSd] at e
    simp only [Hp.own_set, yL, yD, y7, y8, if_false] at e ⊢
    exact e
  · intro h' q
    have uO : h'.own g5 = some (.cells #[.int .i64 sg] 3) := q.1 g5 _ (by rw [hSd]; simp -implicitDefEqProofs (maxSteps := 1000000) only [go_sem, seval, *])
    have u3 : h'.own g3 = some (.cells #[.int .i64 p, .int .i64 l, .int .i64 r, .int .i64 ua, .int .i64 ub, .int .i64 us, .bool lh, .int .i64 ut, .int .i64 lo, .int .i64 hi] 132) := q.1 g3 _ (by rw [hSd]; simp -implicitDefEqProofs (maxSteps := 1000000) only [go_sem, seval, *])
    have u4 : h'.own g4 = some (.cells #[.slice (some ⟨b, 0, none⟩) n c, .int .i64 tl, .int .i64 tr] 67) := q.1 g4 _ (by rw [hSd]; simp -implicitDefEqProofs (maxSteps := 1000000) only [go_sem, seval, *])
    obtain ⟨m0, m1, m2, v1, v2, m3, m4, o1, o2, d1, d2⟩ := q
    obtain ⟨gx, cx, rfl, _⟩ := o1.some (by have := hv.out.hn; omega)
    obtain ⟨gy, cy, rfl, _⟩ := o2.some (by have := hv.out.hn; omega)
    have rx := (o1.drop (g := L) (fun e => (d1 L (.inl e)).2.1 rfl)).read gx cx rfl
    have ry := (o2.drop (g := L) (fun e => (d1 L (.inr e)).2.1 rfl)).read gy cy rfl
    simp only [LeftK_app, m1, LeftR_some, en, OutR_none, es]
    refine ⟨(by intro hx; cases hx), ?_⟩
    have sb := hsg.out
    have lb := hl.out
    have rb := hr.out
    have tb := hv.out.hl
    have ub := hv.out.hr
    have db := hd.out
    have e1 : IntKind.i64.wrap (l - tl) = l - tl := IntWalk.i64_in _ (by omega)
    have e2 : IntKind.i64.wrap (sg * (l - tl)) = sg * (l - tl) := IntWalk.i64_in _ (by rcases sb with rfl | rfl <;> omega)
    have e3 : IntKind.i64.wrap (r - tr) = r - tr := IntWalk.i64_in _ (by omega)
    have e4 : IntKind.i64.wrap (sg * (r - tr)) = sg * (r - tr) := IntWalk.i64_in _ (by rcases sb with rfl | rfl <;> omega)
    have k1 := Hold.mk (fun ro => fmost_ok ro lo hi (sg * (l - tl)) (by omega) (by omega) (by rcases sb with rfl | rfl <;> omega))
    have k2 := Hold.mk (fun ro => fmost_ok ro lo hi (sg * (r - tr)) (by omega) (by omega) (by rcases sb with rfl | rfl <;> omega))
    have q1 := mostF_bd (lo := lo) (hi := hi) (n := sg * (l - tl)) (by omega) (by omega) (by rcases sb with rfl | rfl <;> omega)
    have q2 := mostF_bd (lo := lo) (hi := hi) (n := sg * (r - tr)) (by omega) (by omega) (by rcases sb with rfl | rfl <;> omega)
    obtain ⟨xa, xr, hxl, hxm⟩ := lfF_some (p := p) (sg := sg) hv.out hp.out sb
    obtain ⟨ya, yr, hyl, hym⟩ := rfF_some (p := p) (sg := sg) hv.out hp.out sb
    have hz : szF p l r lo hi tl tr sg TL n = maxL (xa :: xr) + maxL (ya :: yr) + 4 * (mostF lo hi (sg * (l - tl)) + mostF lo hi (sg * (r - tr))) := by unfold szF; rw [hxl, hyl]
    rw [Nat.mul_one, hxl] at rx
    rw [Nat.mul_one, hyl] at ry
    have kx := Hold.mk (fun ro (hk : ∀ a v, (h'.drop L).cell? F a = some v → ro a = some v) => max_ok ro gx 0 n cx xa xr ⟨readI_mono (fun a v e => hk a v e) (readI_ints rx)⟩ ⟨by have := hv.out.hn; omega⟩)
    have ky := Hold.mk (fun ro (hk : ∀ a v, (h'.drop L).cell? F a = some v → ro a = some v) => max_ok ro gy 0 n cy ya yr ⟨readI_mono (fun a v e => hk a v e) (readI_ints ry)⟩ ⟨by have := hv.out.hn; omega⟩)
    have e5 : IntKind.i64.wrap (mostF lo hi (sg * (l - tl)) + mostF lo hi (sg * (r - tr))) = mostF lo hi (sg * (l - tl)) + mostF lo hi (sg * (r - tr)) := IntWalk.i64_in _ (by omega)
    have e6 : IntKind.i64.wrap (maxL (xa :: xr) + maxL (ya :: yr)) = maxL (xa :: xr) + maxL (ya :: yr) := IntWalk.i64_in _ (by omega)
    have e7 : IntKind.i64.wrap (4 * (mostF lo hi (sg * (l - tl)) + mostF lo hi (sg * (r - tr)))) = 4 * (mostF lo hi (sg * (l - tl)) + mostF lo hi (sg * (r - tr))) := IntWalk.i64_in _ (by omega)
    have e8 : IntKind.i64.wrap (maxL (xa :: xr) + maxL (ya :: yr) + 4 * (mostF lo hi (sg * (l - tl)) + mostF lo hi (sg * (r - tr)))) = szF p l r lo hi tl tr sg TL n := by rw [hz]; exact IntWalk.i64_in _ (by omega)
    clear q1 q2 hxm hym hz sb lb rb tb ub db rx ry o1 o2 d1 d2 m0 hrec hSd
    generalize maxL (xa :: xr) = mx at *
    generalize maxL (ya :: yr) = my at *
    generalize mostF lo hi (sg * (l - tl)) = mp at *
    generalize mostF lo hi (sg * (r - tr)) = mq at *
    generalize szF p l r lo hi tl tr sg TL n = sz at *
    simp -implicitDefEqProofs (maxSteps := 1000000) only [go_sem, seval, *]
    repeat' (first | (with_reducible refine at_seq (by with_unfolding_all exact rfl) ?_) | ((first | (with_reducible refine at_plain (by with_unfolding_all exact rfl) ?_) | (with_reducible refine at_draw (by with_unfolding_all exact rfl) ?_) | (with_reducible refine at_cond (by with_unfolding_all exact rfl) ?_) | (with_reducible refine at_exit (by with_unfolding_all exact rfl) ?_) | (with_reducible refine at_ret (by with_unfolding_all exact rfl) ?_) | (with_reducible refine at_skip (by with_unfolding_all exact rfl) ?_) | (with_reducible refine at_label (by with_unfolding_all exact rfl) ?_)) <;> try simp -implicitDefEqProofs (maxSteps := 1000000) only [go_sem, seval, *]) | (with_reducible refine at_block (by with_unfolding_all exact rfl) ?_) | (with_reducible refine at_loop (by with_unfolding_all exact rfl) ?_) | ((first | ((with_reducible refine NewK.intro fun g hg hn => ?_) <;> try simp only [own_none_iff] at hn) | ((with_reducible refine GuardB.split (fun hc => ?_) (fun hc => ?_)) <;> (have hc2 := hc; try simp only [beq_eq_false_iff_ne, beq_iff_eq, ne_eq, bne_iff_ne, bne_eq_false_iff_eq, decide_eq_true_eq, decide_eq_false_iff_not, Bool.not_true, Bool.not_false, Int.not_le, Int.not_lt] at hc2)) | ((with_reducible refine CondK.split (fun hc => ?_) (fun hc => ?_)) <;> (have hc2 := hc; try simp only [beq_eq_false_iff_ne, beq_iff_eq, ne_eq, bne_iff_ne, bne_eq_false_iff_eq, decide_eq_true_eq, decide_eq_false_iff_not, Bool.not_true, Bool.not_false, Int.not_le, Int.not_lt] at hc2)) | ((with_reducible refine PickK.split (fun hc => ?_) (fun hc => ?_)) <;> (have hc2 := hc; try simp only [beq_eq_false_iff_ne, beq_iff_eq, ne_eq, bne_iff_ne, bne_eq_false_iff_eq, decide_eq_true_eq, decide_eq_false_iff_not, Bool.not_true, Bool.not_false, Int.not_le, Int.not_lt] at hc2)) | (with_reducible refine dop_buildSlice ?_) | (with_reducible refine dop_build ?_) | ((with_reducible refine Cr.call (f := 110) (k1.out _) ?_)) | (with_reducible refine CallV.of (f := 110) (k1.out _) ni110 ?_) | ((with_reducible refine Cr.call (f := 110) (k2.out _) ?_)) | (with_reducible refine CallV.of (f := 110) (k2.out _) ni110 ?_) | ((with_reducible refine Cr.call (f := 111) (kx.out _ (fun a v e => e)) ?_)) | (with_reducible refine CallV.of (f := 111) (kx.out _ (fun a v e => e)) ni111 ?_) | ((with_reducible refine Cr.call (f := 111) (ky.out _ (fun a v e => e)) ?_)) | (with_reducible refine CallV.of (f := 111) (ky.out _ (fun a v e => e)) ni111 ?_) | ((with_reducible refine GuardD.split (fun hc => ?_) (fun hc => ?_)) <;> (have hc2 := hc; try simp only [beq_eq_false_iff_ne, beq_iff_eq, ne_eq, bne_iff_ne, bne_eq_false_iff_eq, decide_eq_true_eq, decide_eq_false_iff_not, Bool.not_true, Bool.not_false, Int.not_le, Int.not_lt] at hc2)) | (with_reducible refine stp_build ?_) | (with_reducible refine stp_buildSlice ?_) | (with_reducible refine stp_store ?_) | (with_reducible refine stp_ns ?_) | (with_reducible refine NsB.intro (fun h' ho K' hk => by simp -implicitDefEqProofs (maxSteps := 1000000) only [go_sem, seval, *] <;> exact hk) ?_) | (with_reducible refine WrB.intro _ (by simp -implicitDefEqProofs (maxSteps := 1000000) only [go_sem, seval, *]) (fun h' ho K' hk => by simp -implicitDefEqProofs (maxSteps := 1000000) only [go_sem, seval, *]; exact hk) (fun h' ho K' hk => by simp -implicitDefEqProofs (maxSteps := 1000000) only [go_sem, seval, *] at hk; exact hk) (fun h' ho hk => by simp -implicitDefEqProofs (maxSteps := 1000000) only [go_sem, seval, *] at hk <;> with_unfolding_all exact False.elim hk) ?_) | (with_reducible refine WrB.intro _ (by simp -implicitDefEqProofs (maxSteps := 1000000) only [go_sem, seval, *]) (fun h' ho K' hk => by simp -implicitDefEqProofs (maxSteps := 1000000) only [go_sem, seval, *]; exact hk) ?_) | ((with_reducible refine DDraw.auto mo ?_ ?_); kernel_rfl)) <;> simp -implicitDefEqProofs (maxSteps := 1000000) only [go_sem, seval, *]) | (with_reducible refine bi_same ?_))

end Go.Proofs.Ytdhdfdaclbfkiaa
