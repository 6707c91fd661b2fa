/-
  Walks. Conditions: none.
-/
import Derived.Test.YtlbpfmnobapidaaD3
set_option linter.unusedVariables false
set_option linter.unusedSimpArgs false
namespace Go.Proofs.Ytlbpfmnobapidaa
open Go.RowKit Go.SL
set_option maxHeartbeats 1000000
set_option maxRecDepth 1000000
attribute [local go_sem] fl_getD fl_get fl_set lk_def st_def gL_nil gL_zero gL_succ sL_nil_zero sL_nil_succ sL_zero sL_succ Option.getD_none FgK_app onlyL_nil onlyL_none onlyL_some setO_some toB_bool toB_undef yl_def
attribute [local go_sem high] GuardK_yl GuardL_yl
attribute [local go_sem] initL_one initL_cons lastL_one lastL_cons LastK_app fin_round Fr.inr_w0 Fr.inr_ro Fr.inr_M cell_inr LoopO_some YieldK_some RoundQ_normal RoundQ_ret RoundQ_exit EndR_none EndR_some BegK_app BegR_some OutR_none OutR_ret OutR_exit LeftR_some LeftK_app
attribute [local go_sem] i64w
attribute [local go_sem] dwp_eqGuardE dwp_eqGuardN rval_eqGuardE rval_eqGuardN
attribute [local go_sem] add_none
instance : Inhabited Ord := ⟨⟨0, 0, 0, 0⟩⟩
/-- The first piece of an order. -/
def fstV (os : List Ord) (i : Nat) : Int := ((os.take i).map Ord.pc).sum
def fstL (os : List Ord) : List Int := (List.range (os.length + 1)).map (fstV os)
def manyV (os : List Ord) (fr to : Int) (i : Nat) : Int := min to (fstV os (i + 1)) - max fr (fstV os i)
theorem fstV_zero (os : List Ord) : fstV os 0 = 0 := by simp [fstV]
theorem fstV_succ {os : List Ord} {i : Nat} {o : Ord} (h : os[i]? = some o) : fstV os (i + 1) = fstV os i + o.pc := by
  unfold fstV
  rw [List.take_add_one, h]
  simp
theorem fstL_get {os : List Ord} {i : Nat} (h : i ≤ os.length) : (fstL os)[i]? = some (fstV os i) := by
  unfold fstL
  rw [List.getElem?_map, List.getElem?_range (by omega)]
  rfl
theorem fstL_len (os : List Ord) : (fstL os).length = os.length + 1 := by simp [fstL]
/-- Valid orders of a shop (turned round perhaps). -/
structure OrdsOk (nw : Nat) (os : List Ord) : Prop where
  len : 1 ≤ os.length ∧ os.length ≤ 40
  pc : ∀ o ∈ os, 1 ≤ o.pc ∧ o.pc ≤ 10000
  st : ∀ o ∈ os, 0 ≤ o.st ∧ o.st < nw
  z : ∀ o ∈ os, -10000000000 ≤ o.z0 ∧ o.z0 ≤ o.z1 ∧ o.z1 ≤ 10000000000
theorem fstV_bd {nw : Nat} {os : List Ord} (h : OrdsOk nw os) : ∀ i, i ≤ os.length → 0 ≤ fstV os i ∧ fstV os i ≤ 10000 * i ∧ (i : Int) ≤ fstV os i
  | 0, _ => by rw [fstV_zero]; omega
  | i + 1, hi => by
    have ih := fstV_bd h i (by omega)
    have hx : os[i]? = some os[i] := List.getElem?_eq_getElem (by omega)
    have b := h.pc _ (List.getElem_mem (by omega : i < os.length))
    rw [fstV_succ hx]
    omega
theorem fstV_mono {nw : Nat} {os : List Ord} (h : OrdsOk nw os) {i j : Nat} (hij : i ≤ j) (hj : j ≤ os.length) : fstV os i ≤ fstV os j := by
  induction j with
  | zero => obtain rfl : i = 0 := by omega
            exact Int.le_refl _
  | succ j ih =>
    rcases Nat.lt_or_ge j i with h1 | h1
    · obtain rfl : i = j + 1 := by omega
      exact Int.le_refl _
    · have := ih h1 (by omega)
      have hx : os[j]? = some os[j] := List.getElem?_eq_getElem (by omega)
      have b := h.pc _ (List.getElem_mem (by omega : j < os.length))
      rw [fstV_succ hx]
      omega
/-- What can be read of a shop. -/
structure ShopR (ro : Addr → Option Value) (gs : Nat) (s0 s1 c0 c1 : Int) (pw : Option Addr) (nw cw : Nat) (po : Option Addr) (no co : Nat) (pf : Option Addr) (cf : Nat) (dn : Bool) (ws : List (Int × Int)) (os : List Ord) : Prop where
  m0 : ro ⟨gs, 0, none⟩ = some (.bool false)
  m1 : ro ⟨gs, 1, none⟩ = some (.int .i64 s0)
  m2 : ro ⟨gs, 2, none⟩ = some (.int .i64 s1)
  m3 : ro ⟨gs, 3, none⟩ = some (.int .i64 c0)
  m4 : ro ⟨gs, 4, none⟩ = some (.int .i64 c1)
  m5 : ro ⟨gs, 5, none⟩ = some (.slice pw nw cw)
  m6 : ro ⟨gs, 6, none⟩ = some (.slice po no co)
  m7 : ro ⟨gs, 7, none⟩ = some (.slice pf (no + 1) cf)
  m8 : ro ⟨gs, 8, none⟩ = some (.bool dn)
  rw : RdS ro pw nw 2 (ws.flatMap spC)
  rs : RdS ro po no 4 (os.flatMap oC)
  rf : RdS ro pf (no + 1) 1 (ints (fstL os))
theorem ShopR.mono {ro ro' : Addr → Option Value} {gs : Nat} {s0 s1 c0 c1 : Int} {pw : Option Addr} {nw cw : Nat} {po : Option Addr} {no co : Nat} {pf : Option Addr} {cf : Nat} {dn : Bool} {ws : List (Int × Int)} {os : List Ord}
    (h : ShopR ro gs s0 s1 c0 c1 pw nw cw po no co pf cf dn ws os) (hr : ∀ a u, ro a = some u → ro' a = some u) : ShopR ro' gs s0 s1 c0 c1 pw nw cw po no co pf cf dn ws os :=
  ⟨hr _ _ h.m0, hr _ _ h.m1, hr _ _ h.m2, hr _ _ h.m3, hr _ _ h.m4, hr _ _ h.m5, hr _ _ h.m6, hr _ _ h.m7, hr _ _ h.m8, h.rw.mono hr, h.rs.mono hr, h.rf.mono hr⟩
theorem DRound.sub {P : Program} {F : Fr} {h h' : Hp} {l f : Nat} {tmps : Array Value} {assign body : Code} {K : Value → Hp → Prop} (hs : ∀ g o, h.own g = some o → h'.own g = some o) (hd : DRound P F l f tmps assign body h K) : DRound P F l f tmps assign body h' K :=
  fun w r => hd w (r.sub hs)
def IPt (no co : Nat) (po : Option Addr) (b1 b2 b3 L : Nat) (I : Nat → Hp → Prop) (k' : Nat) (a : Act) (h : Hp) : Prop :=
  ∃ (i : Nat) (x : Nat → Value), Hold (i + k' = no) ∧ Hold (I i h) ∧ a = ⟨fl 48 x [[some (.func (.yield L) #[] #[]), some (.pointer (some ⟨b1, 0, none⟩)), some (.pointer (some ⟨b2, 0, none⟩)), some (.pointer (some ⟨b3, 0, none⟩)), none, none, none, none, none, none, none, some (.slice po no co), some (.int .i64 no), some (.int .i64 i)]], []⟩
set_option maxHeartbeats 8000000 in
theorem parts_D (F : Fr) (h : Hp) (K : Value → Hp → Prop) (gs : Nat) (s0 s1 c0 c1 : Int) (pw : Option Addr) (nw cw : Nat) (po : Option Addr) (no co : Nat) (pf : Option Addr) (cf : Nat) (dn : Bool) (ws : List (Int × Int)) (os : List Ord)
    (fr to : Int) (b1 b2 b3 L : Nat) (S : Hp) (I : Nat → Hp → Prop)
    (hN : Hold (OrdsOk nw os ∧ os.length = no)) (hB : Hold ((-1000000 ≤ fr ∧ fr ≤ 1000000) ∧ -1000000 ≤ to ∧ to ≤ 1000000)) (hS : Hold (ShopR F.ro gs s0 s1 c0 c1 pw nw cw po no co pf cf dn ws os))
    (q1 : S.own b1 = some (.cells #[.pointer (some ⟨gs, 0, none⟩)] 98)) (q2 : S.own b2 = some (.cells #[.int .i64 to] 3)) (q3 : S.own b3 = some (.cells #[.int .i64 fr] 3))
    (z1 : F.w0.heap.size ≤ b1) (z2 : F.w0.heap.size ≤ b2) (z3 : F.w0.heap.size ≤ b3)
    (hI : Hold (∀ i h, I i h → (∀ g o, S.own g = some o → h.own g = some o) ∧ ∃ r, h.own L = some (.loop r) ∧ r.params.size = 2))
    (hR : Hold (∀ i h (o : Ord) (K : Value → Hp → Prop), os[i]? = some o → 0 < manyV os fr to i → I i h → (∀ h', I (i + 1) h' → K (.bool true) h') → ∀ r, h.own L = some (.loop r) →
      DRound Try.prog F L r.fn ((r.params.zip #[.agg #[.int .i64 o.pc, .int .i64 o.st, .int .i64 o.z0, .int .i64 o.z1], .int .i64 (manyV os fr to i)]).foldl (fun tmps (t, a) => tmps.setIfInBounds t a) r.tmps) r.assign r.body h K))
    (hZ : Hold (∀ i h, i < no → manyV os fr to i ≤ 0 → I i h → I (i + 1) h))
    (h0 : I 0 h) (hK : Hold (∀ h', I no h' → K (.tuple #[]) h')) :
    DCall Try.prog F 105 #[.func (.yield L) #[] #[], .pointer (some ⟨b1, 0, none⟩), .pointer (some ⟨b2, 0, none⟩), .pointer (some ⟨b3, 0, none⟩)] h K := by
  have k0 := (hI.out 0 h h0).1
  have u1 := k0 _ _ q1
  have t6 := hS.out.m6
  (refine DCall.inlP (l := _) Try.func105 Try.ntmps105 rfl rfl (by simp only [seval, List.length_cons, List.length_nil]) (by simp only [seval, List.length_cons, List.length_nil]) ?_; simp only [Try.results105, List.map_cons, List.map_nil])
  repeat' (first | (with_reducible refine at_seq (by with_unfolding_all exact rfl) ?_) | ((with_reducible first | refine at_plain (by with_unfolding_all exact rfl) ?_ | refine at_draw (by with_unfolding_all exact rfl) ?_ | refine at_cond (by with_unfolding_all exact rfl) ?_ | refine at_exit (by with_unfolding_all exact rfl) ?_ | refine at_ret (by with_unfolding_all exact rfl) ?_ | refine at_skip (by with_unfolding_all exact rfl) ?_ | refine at_label (by with_unfolding_all exact rfl) ?_) <;> try simp -implicitDefEqProofs (maxSteps := 1000000) only [go_sem, seval, *]) | (with_reducible first | refine at_block (by with_unfolding_all exact rfl) ?_ | refine at_loop (by with_unfolding_all exact rfl) ?_) | ((first | ((with_reducible refine NewK.intro fun g hg hn => ?_) <;> try simp only [own_none_iff] at hn) | ((with_reducible first | refine GuardB.split (fun hc => ?_) (fun hc => ?_) | refine CondK.split (fun hc => ?_) (fun hc => ?_) | refine PickK.split (fun hc => ?_) (fun hc => ?_) | refine GuardD.split (fun hc => ?_) (fun hc => ?_)) <;> (have hc2 := hc; try simp only [beq_eq_false_iff_ne, beq_iff_eq, ne_eq, bne_iff_ne, bne_eq_false_iff_eq, decide_eq_true_eq, decide_eq_false_iff_not, Bool.not_true, Bool.not_false, Int.not_le, Int.not_lt] at hc2)) | (with_reducible first | refine dop_buildSlice ?_ | refine dop_build ?_) | (with_reducible first | refine stp_build ?_ | refine stp_buildSlice ?_ | refine stp_store ?_ | refine stp_ns ?_) | (with_reducible refine NsB.intro (fun h' ho K' hk => by simp -implicitDefEqProofs (maxSteps := 1000000) only [go_sem, seval, *] <;> exact hk) ?_) | (with_reducible refine WrB.intro _ (by simp -implicitDefEqProofs (maxSteps := 1000000) only [go_sem, seval, *]) (fun h' ho K' hk => by simp -implicitDefEqProofs (maxSteps := 1000000) only [go_sem, seval, *]; exact hk) (fun h' ho K' hk => by simp -implicitDefEqProofs (maxSteps := 1000000) only [go_sem, seval, *] at hk; exact hk) (fun h' ho hk => by simp -implicitDefEqProofs (maxSteps := 1000000) only [go_sem, seval, *] at hk <;> with_unfolding_all exact False.elim hk) ?_) | (with_reducible refine WrB.intro _ (by simp -implicitDefEqProofs (maxSteps := 1000000) only [go_sem, seval, *]) (fun h' ho K' hk => by simp -implicitDefEqProofs (maxSteps := 1000000) only [go_sem, seval, *]; exact hk) ?_) | ((with_reducible refine DDraw.auto mo ?_ ?_); kernel_rfl)) <;> simp -implicitDefEqProofs (maxSteps := 1000000) only [go_sem, seval, *]) | (with_reducible refine bi_same ?_))
  clear u1 t6
  refine DLoop.indW (IPt no co po b1 b2 b3 L I) no ⟨0, _, ⟨by omega⟩, ⟨h0⟩, fl_re (by kernel_rfl)⟩ ?_
  clear h0 k0
  (rintro k' a h ⟨i, x, fa0, fa1, rfl⟩)
  have hij := hI.out i h fa1.out
  have u1 := hij.1 _ _ q1
  have u2 := hij.1 _ _ q2
  have u3 := hij.1 _ _ q3
  have v1 := own_ne u1
  have v2 := own_ne u2
  have v3 := own_ne u3
  have sh := hS
  have hj := fa0.out
  have ol := hN.out.2
  have i0 : (0 : Int) ≤ (i : Int) := by omega
  by_cases hlt : i < no
  · have c1 : ((i : Int) < (no : Int)) = True := by simp only [eq_iff_iff, iff_true]; omega
    have n40 := hN.out.1.len.2
    have iw : IntKind.i64.wrap ((i : Int) + 1) = ((i + 1 : Nat) : Int) := by rw [IntWalk.i64_in _ (by omega)]; push_cast; rfl
    have i2 : (0 : Int) ≤ ((i + 1 : Nat) : Int) := by omega
    have c2 : (((i + 1 : Nat) : Int) < ((no + 1 : Nat) : Int)) = True := by simp only [eq_iff_iff, iff_true]; omega
    have c3 : ((i : Int) < ((no + 1 : Nat) : Int)) = True := by simp only [eq_iff_iff, iff_true]; omega
    obtain ⟨rr, hr1, hr2⟩ := hij.2
    have hxi : os[i]? = some os[i] := List.getElem?_eq_getElem (by omega)
    obtain ⟨b, off, rfl, hro⟩ := sh.out.rs.at oC_len hlt hxi
    have r0 := hro 0 _ rfl
    have r1 := hro 1 _ rfl
    have r2 := hro 2 _ rfl
    have r3 := hro 3 _ rfl
    rw [Nat.add_zero] at r0
    have rf' := sh.out.rf
    rw [intsF] at rf'
    obtain ⟨bf, off', rfl, hrf⟩ := rf'.at (f := fun x : Int => [Value.int .i64 x]) (fun _ => rfl) (i := i) (by omega) (fstL_get (by omega))
    obtain ⟨bf2, off2, e2, hrf2⟩ := rf'.at (f := fun x : Int => [Value.int .i64 x]) (fun _ => rfl) (i := i + 1) (by omega) (fstL_get (by omega))
    cases e2
    have r4 := hrf 0 _ rfl
    have r5 := hrf2 0 _ rfl
    rw [Nat.mul_one, Nat.add_zero] at r4 r5
    have t6 := sh.out.m6
    have t7 := sh.out.m7
    have bd0 := fstV_bd hN.out.1 i (by omega)
    have bd1 := fstV_bd hN.out.1 (i + 1) (by omega)
    have bb := hB.out
    have iz : IntKind.i64.wrap (min to (fstV os (i + 1)) - max fr (fstV os i)) = manyV os fr to i := IntWalk.i64_in _ (by omega)
    have hR' := fun K => hR.out i h os[i] K hxi
    have hZ' := hZ.out i h hlt
    generalize os[i] = o at *
    generalize manyV os fr to i = mv at *
    generalize fstV os i = f0 at *
    generalize fstV os (i + 1) = f1 at *
    replace hR' := Hold.mk hR'
    replace hZ' := Hold.mk hZ'
    replace hj := Hold.mk hj
    replace hxi := Hold.mk hxi
    clear hro hrf hrf2 rf' bd0 bd1 bb n40 ol fa0 sh
    by_cases hm : 0 < mv
    · have c4 : (mv > 0) = True := by simp only [eq_iff_iff, iff_true]; omega
      replace hm := Hold.mk hm
      repeat' (first | (with_reducible refine at_seq (by with_unfolding_all exact rfl) ?_) | ((with_reducible first | refine at_plain (by with_unfolding_all exact rfl) ?_ | refine at_draw (by with_unfolding_all exact rfl) ?_ | refine at_cond (by with_unfolding_all exact rfl) ?_ | refine at_exit (by with_unfolding_all exact rfl) ?_ | refine at_ret (by with_unfolding_all exact rfl) ?_ | refine at_skip (by with_unfolding_all exact rfl) ?_ | refine at_label (by with_unfolding_all exact rfl) ?_) <;> try simp -implicitDefEqProofs (maxSteps := 1000000) only [go_sem, seval, *]) | (with_reducible first | refine at_block (by with_unfolding_all exact rfl) ?_ | refine at_loop (by with_unfolding_all exact rfl) ?_) | ((first | ((with_reducible refine NewK.intro fun g hg hn => ?_) <;> try simp only [own_none_iff] at hn) | ((with_reducible first | refine GuardB.split (fun hc => ?_) (fun hc => ?_) | refine CondK.split (fun hc => ?_) (fun hc => ?_) | refine PickK.split (fun hc => ?_) (fun hc => ?_) | refine GuardD.split (fun hc => ?_) (fun hc => ?_)) <;> (have hc2 := hc; try simp only [beq_eq_false_iff_ne, beq_iff_eq, ne_eq, bne_iff_ne, bne_eq_false_iff_eq, decide_eq_true_eq, decide_eq_false_iff_not, Bool.not_true, Bool.not_false, Int.not_le, Int.not_lt] at hc2)) | (with_reducible first | refine dop_buildSlice ?_ | refine dop_build ?_) | (with_reducible first | refine stp_build ?_ | refine stp_buildSlice ?_ | refine stp_store ?_ | refine stp_ns ?_) | (with_reducible refine NsB.intro (fun h' ho K' hk => by simp -implicitDefEqProofs (maxSteps := 1000000) only [go_sem, seval, *] <;> exact hk) ?_) | (with_reducible refine WrB.intro _ (by simp -implicitDefEqProofs (maxSteps := 1000000) only [go_sem, seval, *]) (fun h' ho K' hk => by simp -implicitDefEqProofs (maxSteps := 1000000) only [go_sem, seval, *]; exact hk) (fun h' ho K' hk => by simp -implicitDefEqProofs (maxSteps := 1000000) only [go_sem, seval, *] at hk; exact hk) (fun h' ho hk => by simp -implicitDefEqProofs (maxSteps := 1000000) only [go_sem, seval, *] at hk <;> with_unfolding_all exact False.elim hk) ?_) | (with_reducible refine WrB.intro _ (by simp -implicitDefEqProofs (maxSteps := 1000000) only [go_sem, seval, *]) (fun h' ho K' hk => by simp -implicitDefEqProofs (maxSteps := 1000000) only [go_sem, seval, *]; exact hk) ?_) | ((with_reducible refine DDraw.auto mo ?_ ?_); kernel_rfl)) <;> simp -implicitDefEqProofs (maxSteps := 1000000) only [go_sem, seval, *]) | (with_reducible refine bi_same ?_))
      refine dwp_yield ?_
      rw [Hp.own_set, if_neg (own_ne hr1 g hn).1, hr1]
      refine ⟨by rw [hr2]; rfl, DRound.sub (fun y o e => subS sub_refl hn y o e) (hR'.out _ hm.out fa1.out (fun h' hI' => ?_) rr hr1)⟩
      clear fa1 hij u1 u2 u3 v1 v2 v3 hr1 hr2 hR' hZ' t6 t7
      replace hI' := Hold.mk hI'
      simp -implicitDefEqProofs (maxSteps := 1000000) only [go_sem, seval, *]
      repeat' (first | (with_reducible refine at_seq (by with_unfolding_all exact rfl) ?_) | ((with_reducible first | refine at_plain (by with_unfolding_all exact rfl) ?_ | refine at_draw (by with_unfolding_all exact rfl) ?_ | refine at_cond (by with_unfolding_all exact rfl) ?_ | refine at_exit (by with_unfolding_all exact rfl) ?_ | refine at_ret (by with_unfolding_all exact rfl) ?_ | refine at_skip (by with_unfolding_all exact rfl) ?_ | refine at_label (by with_unfolding_all exact rfl) ?_) <;> try simp -implicitDefEqProofs (maxSteps := 1000000) only [go_sem, seval, *]) | (with_reducible first | refine at_block (by with_unfolding_all exact rfl) ?_ | refine at_loop (by with_unfolding_all exact rfl) ?_) | ((first | ((with_reducible refine NewK.intro fun g hg hn => ?_) <;> try simp only [own_none_iff] at hn) | ((with_reducible first | refine GuardB.split (fun hc => ?_) (fun hc => ?_) | refine CondK.split (fun hc => ?_) (fun hc => ?_) | refine PickK.split (fun hc => ?_) (fun hc => ?_) | refine GuardD.split (fun hc => ?_) (fun hc => ?_)) <;> (have hc2 := hc; try simp only [beq_eq_false_iff_ne, beq_iff_eq, ne_eq, bne_iff_ne, bne_eq_false_iff_eq, decide_eq_true_eq, decide_eq_false_iff_not, Bool.not_true, Bool.not_false, Int.not_le, Int.not_lt] at hc2)) | (with_reducible first | refine dop_buildSlice ?_ | refine dop_build ?_) | (with_reducible first | refine stp_build ?_ | refine stp_buildSlice ?_ | refine stp_store ?_ | refine stp_ns ?_) | (with_reducible refine NsB.intro (fun h' ho K' hk => by simp -implicitDefEqProofs (maxSteps := 1000000) only [go_sem, seval, *] <;> exact hk) ?_) | (with_reducible refine WrB.intro _ (by simp -implicitDefEqProofs (maxSteps := 1000000) only [go_sem, seval, *]) (fun h' ho K' hk => by simp -implicitDefEqProofs (maxSteps := 1000000) only [go_sem, seval, *]; exact hk) (fun h' ho K' hk => by simp -implicitDefEqProofs (maxSteps := 1000000) only [go_sem, seval, *] at hk; exact hk) (fun h' ho hk => by simp -implicitDefEqProofs (maxSteps := 1000000) only [go_sem, seval, *] at hk <;> with_unfolding_all exact False.elim hk) ?_) | (with_reducible refine WrB.intro _ (by simp -implicitDefEqProofs (maxSteps := 1000000) only [go_sem, seval, *]) (fun h' ho K' hk => by simp -implicitDefEqProofs (maxSteps := 1000000) only [go_sem, seval, *]; exact hk) ?_) | ((with_reducible refine DDraw.auto mo ?_ ?_); kernel_rfl)) <;> simp -implicitDefEqProofs (maxSteps := 1000000) only [go_sem, seval, *]) | (with_reducible refine bi_same ?_))
      have hj := hj.out
      exact LoopW.intro (k' - 1) h' (by omega) sub_refl ⟨i + 1, _, ⟨by omega⟩, hI', fl_re (by kernel_rfl)⟩
    · have c4 : (mv > 0) = False := by simp only [eq_iff_iff, iff_false]; omega
      replace hm := Hold.mk hm
      repeat' (first | (with_reducible refine at_seq (by with_unfolding_all exact rfl) ?_) | ((with_reducible first | refine at_plain (by with_unfolding_all exact rfl) ?_ | refine at_draw (by with_unfolding_all exact rfl) ?_ | refine at_cond (by with_unfolding_all exact rfl) ?_ | refine at_exit (by with_unfolding_all exact rfl) ?_ | refine at_ret (by with_unfolding_all exact rfl) ?_ | refine at_skip (by with_unfolding_all exact rfl) ?_ | refine at_label (by with_unfolding_all exact rfl) ?_) <;> try simp -implicitDefEqProofs (maxSteps := 1000000) only [go_sem, seval, *]) | (with_reducible first | refine at_block (by with_unfolding_all exact rfl) ?_ | refine at_loop (by with_unfolding_all exact rfl) ?_) | ((first | ((with_reducible refine NewK.intro fun g hg hn => ?_) <;> try simp only [own_none_iff] at hn) | ((with_reducible first | refine GuardB.split (fun hc => ?_) (fun hc => ?_) | refine CondK.split (fun hc => ?_) (fun hc => ?_) | refine PickK.split (fun hc => ?_) (fun hc => ?_) | refine GuardD.split (fun hc => ?_) (fun hc => ?_)) <;> (have hc2 := hc; try simp only [beq_eq_false_iff_ne, beq_iff_eq, ne_eq, bne_iff_ne, bne_eq_false_iff_eq, decide_eq_true_eq, decide_eq_false_iff_not, Bool.not_true, Bool.not_false, Int.not_le, Int.not_lt] at hc2)) | (with_reducible first | refine dop_buildSlice ?_ | refine dop_build ?_) | (with_reducible first | refine stp_build ?_ | refine stp_buildSlice ?_ | refine stp_store ?_ | refine stp_ns ?_) | (with_reducible refine NsB.intro (fun h' ho K' hk => by simp -implicitDefEqProofs (maxSteps := 1000000) only [go_sem, seval, *] <;> exact hk) ?_) | (with_reducible refine WrB.intro _ (by simp -implicitDefEqProofs (maxSteps := 1000000) only [go_sem, seval, *]) (fun h' ho K' hk => by simp -implicitDefEqProofs (maxSteps := 1000000) only [go_sem, seval, *]; exact hk) (fun h' ho K' hk => by simp -implicitDefEqProofs (maxSteps := 1000000) only [go_sem, seval, *] at hk; exact hk) (fun h' ho hk => by simp -implicitDefEqProofs (maxSteps := 1000000) only [go_sem, seval, *] at hk <;> with_unfolding_all exact False.elim hk) ?_) | (with_reducible refine WrB.intro _ (by simp -implicitDefEqProofs (maxSteps := 1000000) only [go_sem, seval, *]) (fun h' ho K' hk => by simp -implicitDefEqProofs (maxSteps := 1000000) only [go_sem, seval, *]; exact hk) ?_) | ((with_reducible refine DDraw.auto mo ?_ ?_); kernel_rfl)) <;> simp -implicitDefEqProofs (maxSteps := 1000000) only [go_sem, seval, *]) | (with_reducible refine bi_same ?_))
      have hj := hj.out
      exact LoopW.intro (k' - 1) h (by omega) (subS sub_refl hn) ⟨i + 1, _, ⟨by omega⟩, ⟨hZ'.out (by have := hm.out; omega) fa1.out⟩, fl_re (by kernel_rfl)⟩
  · have c1 : ((i : Int) < (no : Int)) = False := by simp only [eq_iff_iff, iff_false]; omega
    have hjn : no = i := by omega
    subst hjn
    clear hlt hj i0 ol sh
    repeat' (first | (with_reducible refine at_seq (by with_unfolding_all exact rfl) ?_) | ((with_reducible first | refine at_plain (by with_unfolding_all exact rfl) ?_ | refine at_draw (by with_unfolding_all exact rfl) ?_ | refine at_cond (by with_unfolding_all exact rfl) ?_ | refine at_exit (by with_unfolding_all exact rfl) ?_ | refine at_ret (by with_unfolding_all exact rfl) ?_ | refine at_skip (by with_unfolding_all exact rfl) ?_ | refine at_label (by with_unfolding_all exact rfl) ?_) <;> try simp -implicitDefEqProofs (maxSteps := 1000000) only [go_sem, seval, *]) | (with_reducible first | refine at_block (by with_unfolding_all exact rfl) ?_ | refine at_loop (by with_unfolding_all exact rfl) ?_) | ((first | ((with_reducible refine NewK.intro fun g hg hn => ?_) <;> try simp only [own_none_iff] at hn) | ((with_reducible first | refine GuardB.split (fun hc => ?_) (fun hc => ?_) | refine CondK.split (fun hc => ?_) (fun hc => ?_) | refine PickK.split (fun hc => ?_) (fun hc => ?_) | refine GuardD.split (fun hc => ?_) (fun hc => ?_)) <;> (have hc2 := hc; try simp only [beq_eq_false_iff_ne, beq_iff_eq, ne_eq, bne_iff_ne, bne_eq_false_iff_eq, decide_eq_true_eq, decide_eq_false_iff_not, Bool.not_true, Bool.not_false, Int.not_le, Int.not_lt] at hc2)) | (with_reducible first | refine dop_buildSlice ?_ | refine dop_build ?_) | (with_reducible first | refine stp_build ?_ | refine stp_buildSlice ?_ | refine stp_store ?_ | refine stp_ns ?_) | (with_reducible refine NsB.intro (fun h' ho K' hk => by simp -implicitDefEqProofs (maxSteps := 1000000) only [go_sem, seval, *] <;> exact hk) ?_) | (with_reducible refine WrB.intro _ (by simp -implicitDefEqProofs (maxSteps := 1000000) only [go_sem, seval, *]) (fun h' ho K' hk => by simp -implicitDefEqProofs (maxSteps := 1000000) only [go_sem, seval, *]; exact hk) (fun h' ho K' hk => by simp -implicitDefEqProofs (maxSteps := 1000000) only [go_sem, seval, *] at hk; exact hk) (fun h' ho hk => by simp -implicitDefEqProofs (maxSteps := 1000000) only [go_sem, seval, *] at hk <;> with_unfolding_all exact False.elim hk) ?_) | (with_reducible refine WrB.intro _ (by simp -implicitDefEqProofs (maxSteps := 1000000) only [go_sem, seval, *]) (fun h' ho K' hk => by simp -implicitDefEqProofs (maxSteps := 1000000) only [go_sem, seval, *]; exact hk) ?_) | ((with_reducible refine DDraw.auto mo ?_ ?_); kernel_rfl)) <;> simp -implicitDefEqProofs (maxSteps := 1000000) only [go_sem, seval, *]) | (with_reducible refine bi_same ?_))
    exact hK.out h fa1.out

end Go.Proofs.Ytlbpfmnobapidaa
