/-
  Walks. Conditions: none.
-/
import Derived.Test.YtlblahfndlgfmaaF7
set_option linter.unusedVariables false
set_option linter.unusedSimpArgs false
namespace Go.Proofs.Ytlblahfndlgfmaa
open Go.RowKit Go.SL
set_option maxHeartbeats 1000000
set_option maxRecDepth 1000000
attribute [local go_sem] fl_getD fl_get fl_set lk_def st_def gL_nil gL_zero gL_succ sL_nil_zero sL_nil_succ sL_zero sL_succ Option.getD_none FgK_app onlyL_nil onlyL_none onlyL_some setO_some toB_bool toB_undef yl_def
attribute [local go_sem high] GuardK_yl GuardL_yl
attribute [local go_sem] initL_one initL_cons lastL_one lastL_cons LastK_app fin_round Fr.inr_w0 Fr.inr_ro Fr.inr_M cell_inr LoopO_some YieldK_some RoundQ_normal RoundQ_ret RoundQ_exit EndR_none EndR_some BegK_app BegR_some OutR_none OutR_ret OutR_exit LeftR_some LeftK_app
attribute [local go_sem] i64w
attribute [local go_sem] dwp_eqGuardE dwp_eqGuardN rval_eqGuardE rval_eqGuardN
attribute [local go_sem] add_none
theorem set3_own {S0 : Hp} {a b c : Nat} {x y z : Obj} (h1 : a ≠ b) (h2 : a ≠ c) (h3 : b ≠ c) : (((S0.set a x).set b y).set c z).own a = some x ∧ (((S0.set a x).set b y).set c z).own b = some y ∧ (((S0.set a x).set b y).set c z).own c = some z := by
  refine ⟨?_, ?_, ?_⟩
  · rw [Hp.own_set, if_neg h2, Hp.own_set, if_neg h1, Hp.own_set, if_pos rfl]
  · rw [Hp.own_set, if_neg h3, Hp.own_set, if_pos rfl]
  · rw [Hp.own_set, if_pos rfl]
abbrev FlSt := (Nat → Int × Int) × (Nat → Int × Int) × Int
/-- A step. -/
def stF (ld th hd ot0 ot1 oh0 oh1 st0 st1 sp0 sp1 yi0 yi1 : Int) (sh : List Int) (n : Nat) (s : FlSt) (p : Int × Int) : FlSt :=
  (pullF s.1 sh n p.1.toNat (gA ld th hd ot0 ot1 oh0 oh1 st0 st1 sp0 sp1 yi0 yi1 p.2) (gB ld th hd ot0 ot1 oh0 oh1 st0 st1 sp0 sp1 yi0 yi1 p.2), pullL s.1 s.2.1 sh n p.1.toNat (gA ld th hd ot0 ot1 oh0 oh1 st0 st1 sp0 sp1 yi0 yi1 p.2) (gB ld th hd ot0 ot1 oh0 oh1 st0 st1 sp0 sp1 yi0 yi1 p.2), max s.2.2 (pullF s.1 sh n p.1.toNat (gA ld th hd ot0 ot1 oh0 oh1 st0 st1 sp0 sp1 yi0 yi1 p.2) (gB ld th hd ot0 ot1 oh0 oh1 st0 st1 sp0 sp1 yi0 yi1 p.2) p.1.toNat).2)
def runF (ld th hd ot0 ot1 oh0 oh1 st0 st1 sp0 sp1 yi0 yi1 : Int) (sh : List Int) (n : Nat) (s : FlSt) (l : List (Int × Int)) : FlSt := l.foldl (stF ld th hd ot0 ot1 oh0 oh1 st0 st1 sp0 sp1 yi0 yi1 sh n) s
theorem runF_take {ld th hd ot0 ot1 oh0 oh1 st0 st1 sp0 sp1 yi0 yi1 : Int} {sh : List Int} {n : Nat} {s : FlSt} {l : List (Int × Int)} {j : Nat} {p : Int × Int} (h : l[j]? = some p) : runF ld th hd ot0 ot1 oh0 oh1 st0 st1 sp0 sp1 yi0 yi1 sh n s (l.take (j + 1)) = stF ld th hd ot0 ot1 oh0 oh1 st0 st1 sp0 sp1 yi0 yi1 sh n (runF ld th hd ot0 ot1 oh0 oh1 st0 st1 sp0 sp1 yi0 yi1 sh n s (l.take j)) p := by
  unfold runF
  rw [List.take_add_one, h]
  simp
def okSt (ld th hd ot0 ot1 oh0 oh1 st0 st1 sp0 sp1 yi0 yi1 : Int) (n : Nat) (p : Int × Int) : Prop := (0 ≤ p.1 ∧ p.1 < n) ∧ gE ld th hd ot0 ot1 oh0 oh1 st0 st1 sp0 sp1 yi0 yi1 p.2 = 0
theorem runF_bd {ld th hd ot0 ot1 oh0 oh1 st0 st1 sp0 sp1 yi0 yi1 : Int} {sh : List Int} {n : Nat} (hn : n ≤ 12) (hs : ∀ j, 0 ≤ shareV sh n j ∧ shareV sh n j ≤ 500) : ∀ (l : List (Int × Int)) (s : FlSt) (B : Int), (∀ p ∈ l, okSt ld th hd ot0 ot1 oh0 oh1 st0 st1 sp0 sp1 yi0 yi1 n p) → FBd s.1 100000000 → 0 ≤ B → FBd s.2.1 B →
    FBd (runF ld th hd ot0 ot1 oh0 oh1 st0 st1 sp0 sp1 yi0 yi1 sh n s l).1 100000000 ∧ FBd (runF ld th hd ot0 ot1 oh0 oh1 st0 st1 sp0 sp1 yi0 yi1 sh n s l).2.1 (B + l.length * 600000012)
  | [], s, B, _, h1, _, h2 => ⟨h1, h2.mono (by simp)⟩
  | p :: l, s, B, hp, h1, hB, h2 => by
    have q := g_bd (hp p (List.mem_cons_self ..)).2
    have g : 0 ≤ gA ld th hd ot0 ot1 oh0 oh1 st0 st1 sp0 sp1 yi0 yi1 p.2 ∧ gA ld th hd ot0 ot1 oh0 oh1 st0 st1 sp0 sp1 yi0 yi1 p.2 ≤ gB ld th hd ot0 ot1 oh0 oh1 st0 st1 sp0 sp1 yi0 yi1 p.2 ∧ gB ld th hd ot0 ot1 oh0 oh1 st0 st1 sp0 sp1 yi0 yi1 p.2 ≤ 100000000 := by omega
    have f1 := pullF_bd (i := p.1.toNat) (n := n) g hs h1
    have l1 : FBd (stF ld th hd ot0 ot1 oh0 oh1 st0 st1 sp0 sp1 yi0 yi1 sh n s p).2.1 (B + 600000012) := (pullL_bd (i := p.1.toNat) (n := n) g hs h1 hB h2).mono (by omega)
    have := runF_bd hn hs l (stF ld th hd ot0 ot1 oh0 oh1 st0 st1 sp0 sp1 yi0 yi1 sh n s p) (B + 600000012) (fun x hx => hp x (List.mem_cons_of_mem _ hx)) f1 (by omega) l1
    refine ⟨this.1, this.2.mono ?_⟩
    rw [List.length_cons]
    push_cast
    omega
/-- What is owned while a plan is carried out. -/
def RunI (S0 : Hp) (gf gF gL n gs so sn sc cF cL : Nat) (ld th hd ot0 ot1 oh0 oh1 st0 st1 sp0 sp1 yi0 yi1 nd : Int) (s : FlSt) (h : Hp) : Prop :=
  (∀ g o, S0.own g = some o → h.own g = some o) ∧ h.own gf = some (.cells #[.int .i64 n, .int .i64 ld, .int .i64 th, .int .i64 hd, .int .i64 ot0, .int .i64 ot1, .int .i64 oh0, .int .i64 oh1, .int .i64 st0, .int .i64 st1, .int .i64 sp0, .int .i64 sp1, .int .i64 yi0, .int .i64 yi1, .slice (some ⟨gs, so, none⟩) sn sc, .int .i64 nd, .slice (some ⟨gF, 0, none⟩) n cF, .slice (some ⟨gL, 0, none⟩) n cL, .int .i64 s.2.2] 95) ∧ h.own gF = some (.cells (flS s.1 n).toArray 26) ∧ h.own gL = some (.cells (flS s.2.1 n).toArray 26)
def RNt (S0 : Hp) (gf gF gL n gs so sn sc cF cL gp po m pc : Nat) (ld th hd ot0 ot1 oh0 oh1 st0 st1 sp0 sp1 yi0 yi1 nd : Int) (T : Nat → FlSt) (k' : Nat) (a : Act) (h : Hp) : Prop :=
  ∃ (j : Nat) (x : Nat → Value), Hold (j + k' = m) ∧ Hold (RunI S0 gf gF gL n gs so sn sc cF cL ld th hd ot0 ot1 oh0 oh1 st0 st1 sp0 sp1 yi0 yi1 nd (T j) h) ∧ a = ⟨fl 24 x [[some (.pointer (some ⟨gf, 0, none⟩)), some (.slice (some ⟨gp, po, none⟩) m pc), none, none, some (.int .i64 0), none, none, none, none, none, none, some (.slice (some ⟨gp, po, none⟩) m pc), some (.int .i64 m), some (.int .i64 j)]], []⟩
set_option maxHeartbeats 8000000 in
theorem run_D (F : Fr) (hT : F.top = true) (h S0 : Hp) (K : Value → Hp → Prop) (n m : Nat) (gf gs so sn sc gF cF gL cL gp po pc : Nat) (ld th hd ot0 ot1 oh0 oh1 st0 st1 sp0 sp1 yi0 yi1 nd : Int) (sh : List Int) (s0 : FlSt) (pl : List (Int × Int))
    (hN : Hold (3 ≤ n ∧ n ≤ 12 ∧ sn = n / 2)) (hm : Hold (m ≤ 200 ∧ pl.length = m)) (hp : Hold (∀ p ∈ pl, okSt ld th hd ot0 ot1 oh0 oh1 st0 st1 sp0 sp1 yi0 yi1 n p)) (hf : Hold (FBd s0.1 100000000)) (hl : Hold (FBd s0.2.1 0))
    (hs : Hold (∀ j, 0 ≤ shareV sh n j ∧ shareV sh n j ≤ 500)) (dF : S0.own gF = none) (dL : S0.own gL = none) (df : S0.own gf = none)
    (hq : gf ≠ gF ∧ gF ≠ gf ∧ gf ≠ gL ∧ gL ≠ gf ∧ gF ≠ gL ∧ gL ≠ gF) (hsh : Hold (readI (S0.cell? F) gs so sn = some sh)) (hpl : Hold (readV (S0.cell? F) gp po (m * 2) = some (pl.flatMap spC))) (z1 : F.w0.heap.size ≤ gf) (z2 : F.w0.heap.size ≤ gF) (z3 : F.w0.heap.size ≤ gL)
    (hI : Hold (RunI S0 gf gF gL n gs so sn sc cF cL ld th hd ot0 ot1 oh0 oh1 st0 st1 sp0 sp1 yi0 yi1 nd s0 h)) (hK : Hold (∀ h', RunI S0 gf gF gL n gs so sn sc cF cL ld th hd ot0 ot1 oh0 oh1 st0 st1 sp0 sp1 yi0 yi1 nd (runF ld th hd ot0 ot1 oh0 oh1 st0 st1 sp0 sp1 yi0 yi1 sh n s0 pl) h' → K (.int .i64 0) h')) :
    DCall Try.prog F 48 #[.pointer (some ⟨gf, 0, none⟩), .slice (some ⟨gp, po, none⟩) m pc] h K := by
  have m1 : ((m : Int) > 200) = False := by have := hm.out; simp only [eq_iff_iff, iff_false]; omega
  obtain ⟨T, hT0⟩ : ∃ T : Nat → FlSt, T = fun j => runF ld th hd ot0 ot1 oh0 oh1 st0 st1 sp0 sp1 yi0 yi1 sh n s0 (pl.take j) := ⟨_, rfl⟩
  have t0 : T 0 = s0 := by rw [hT0]; rfl
  have tm : T m = runF ld th hd ot0 ot1 oh0 oh1 st0 st1 sp0 sp1 yi0 yi1 sh n s0 pl := by rw [hT0]; dsimp only; rw [List.take_of_length_le (by have := hm.out; omega)]
  have tb : ∀ j, j < m → FBd (T j).1 100000000 ∧ FBd (T j).2.1 (0 + j * 600000012) := fun j hj => by
    have := runF_bd (sh := sh) (by have := hN.out; omega) hs.out (pl.take j) s0 0 (fun p h => hp.out p (List.mem_of_mem_take h)) hf.out (by omega) hl.out
    rw [List.length_take, Nat.min_eq_left (by have := hm.out; omega)] at this
    rw [hT0]
    exact this
  have ts : ∀ j p, pl[j]? = some p → T (j + 1) = stF ld th hd ot0 ot1 oh0 oh1 st0 st1 sp0 sp1 yi0 yi1 sh n (T j) p := fun j p e => by rw [hT0]; exact runF_take e
  replace tb := Hold.mk tb
  replace ts := Hold.mk ts
  replace tm := Hold.mk tm
  clear hT0
  (refine DCall.inlP (l := _) Try.func48 Try.ntmps48 rfl rfl (by simp only [seval, List.length_cons, List.length_nil]) (by simp only [seval, List.length_cons, List.length_nil]) ?_; simp only [Try.results48, List.map_cons, List.map_nil])
  repeat' (first | (with_reducible refine at_seq (by with_unfolding_all exact rfl) ?_) | ((first | (with_reducible refine at_plain (by with_unfolding_all exact rfl) ?_) | (with_reducible refine at_draw (by with_unfolding_all exact rfl) ?_) | (with_reducible refine at_cond (by with_unfolding_all exact rfl) ?_) | (with_reducible refine at_exit (by with_unfolding_all exact rfl) ?_) | (with_reducible refine at_ret (by with_unfolding_all exact rfl) ?_) | (with_reducible refine at_skip (by with_unfolding_all exact rfl) ?_) | (with_reducible refine at_label (by with_unfolding_all exact rfl) ?_)) <;> try simp -implicitDefEqProofs (maxSteps := 1000000) only [go_sem, seval, *]) | (with_reducible refine at_block (by with_unfolding_all exact rfl) ?_) | (with_reducible refine at_loop (by with_unfolding_all exact rfl) ?_) | ((first | ((with_reducible refine NewK.intro fun g hg hn => ?_) <;> try simp only [own_none_iff] at hn) | ((with_reducible refine GuardB.split (fun hc => ?_) (fun hc => ?_)) <;> (have hc2 := hc; try simp only [beq_eq_false_iff_ne, beq_iff_eq, ne_eq, bne_iff_ne, bne_eq_false_iff_eq, decide_eq_true_eq, decide_eq_false_iff_not, Bool.not_true, Bool.not_false, Int.not_le, Int.not_lt] at hc2)) | ((with_reducible refine CondK.split (fun hc => ?_) (fun hc => ?_)) <;> (have hc2 := hc; try simp only [beq_eq_false_iff_ne, beq_iff_eq, ne_eq, bne_iff_ne, bne_eq_false_iff_eq, decide_eq_true_eq, decide_eq_false_iff_not, Bool.not_true, Bool.not_false, Int.not_le, Int.not_lt] at hc2)) | ((with_reducible refine PickK.split (fun hc => ?_) (fun hc => ?_)) <;> (have hc2 := hc; try simp only [beq_eq_false_iff_ne, beq_iff_eq, ne_eq, bne_iff_ne, bne_eq_false_iff_eq, decide_eq_true_eq, decide_eq_false_iff_not, Bool.not_true, Bool.not_false, Int.not_le, Int.not_lt] at hc2)) | (with_reducible refine dop_buildSlice ?_) | (with_reducible refine dop_build ?_) | ((with_reducible refine GuardD.split (fun hc => ?_) (fun hc => ?_)) <;> (have hc2 := hc; try simp only [beq_eq_false_iff_ne, beq_iff_eq, ne_eq, bne_iff_ne, bne_eq_false_iff_eq, decide_eq_true_eq, decide_eq_false_iff_not, Bool.not_true, Bool.not_false, Int.not_le, Int.not_lt] at hc2)) | (with_reducible refine stp_build ?_) | (with_reducible refine stp_buildSlice ?_) | (with_reducible refine stp_store ?_) | (with_reducible refine stp_ns ?_) | (with_reducible refine NsB.intro (fun h' ho K' hk => by simp -implicitDefEqProofs (maxSteps := 1000000) only [go_sem, seval, *] <;> exact hk) ?_) | (with_reducible refine WrB.intro _ (by simp -implicitDefEqProofs (maxSteps := 1000000) only [go_sem, seval, *]) (fun h' ho K' hk => by simp -implicitDefEqProofs (maxSteps := 1000000) only [go_sem, seval, *]; exact hk) (fun h' ho K' hk => by simp -implicitDefEqProofs (maxSteps := 1000000) only [go_sem, seval, *] at hk; exact hk) (fun h' ho hk => by simp -implicitDefEqProofs (maxSteps := 1000000) only [go_sem, seval, *] at hk <;> with_unfolding_all exact False.elim hk) ?_) | (with_reducible refine WrB.intro _ (by simp -implicitDefEqProofs (maxSteps := 1000000) only [go_sem, seval, *]) (fun h' ho K' hk => by simp -implicitDefEqProofs (maxSteps := 1000000) only [go_sem, seval, *]; exact hk) ?_) | ((with_reducible refine DDraw.auto mo ?_ ?_); kernel_rfl)) <;> simp -implicitDefEqProofs (maxSteps := 1000000) only [go_sem, seval, *]) | (with_reducible refine bi_same ?_))
  refine DLoop.ind (RNt S0 gf gF gL n gs so sn sc cF cL gp po m pc ld th hd ot0 ot1 oh0 oh1 st0 st1 sp0 sp1 yi0 yi1 nd T) m ⟨0, _, ⟨by omega⟩, ⟨by rw [t0]; exact hI.out⟩, fl_re (by kernel_rfl)⟩ ?_
  clear hI
  (rintro k' a h ⟨j, x, fa0, fa1, rfl⟩)
  have hjm := fa0.out
  obtain ⟨u0, u1, u2, u3⟩ := fa1.out
  have v1 := own_ne u1
  have v2 := own_ne u2
  have v3 := own_ne u3
  have jn : (0 : Int) ≤ (j : Int) := by omega
  by_cases hlt : j < m
  · have c1 : ((j : Int) < (m : Int)) = True := by simp only [eq_iff_iff, iff_true]; omega
    have hlp : j < pl.length := by have := hm.out; omega
    have hxi : pl[j]? = some pl[j] := List.getElem?_eq_getElem hlp
    have hro := readV_at (f := spC) (s := 2) (fun p => rfl) hpl.out hxi
    have hmem := List.getElem_mem hlp
    generalize pl[j] = p at *
    have q0 := hro 0 _ rfl
    have q1 := hro 1 _ rfl
    have r0 := sub_cell u0 q0
    have r1 := sub_cell u0 q1
    simp only [Nat.add_zero] at r0
    have pk := hp.out p hmem
    have stp1 := ts.out j p hxi
    have bd := tb.out j hlt
    have iw : IntKind.i64.wrap ((j : Int) + 1) = ((j + 1 : Nat) : Int) := by rw [IntWalk.i64_in _ (by have := hm.out; omega)]; push_cast; rfl
    have pe : p.1 = ((p.1.toNat : Nat) : Int) := by have := pk.1; omega
    rw [pe] at r0 q0
    replace pk := Hold.mk pk
    replace bd := Hold.mk bd
    replace stp1 := Hold.mk stp1
    replace hlt := Hold.mk hlt
    clear hxi hmem hlp hro q0 q1 hjm pe
    repeat' (first | (with_reducible refine at_seq (by with_unfolding_all exact rfl) ?_) | ((first | (with_reducible refine at_plain (by with_unfolding_all exact rfl) ?_) | (with_reducible refine at_draw (by with_unfolding_all exact rfl) ?_) | (with_reducible refine at_cond (by with_unfolding_all exact rfl) ?_) | (with_reducible refine at_exit (by with_unfolding_all exact rfl) ?_) | (with_reducible refine at_ret (by with_unfolding_all exact rfl) ?_) | (with_reducible refine at_skip (by with_unfolding_all exact rfl) ?_) | (with_reducible refine at_label (by with_unfolding_all exact rfl) ?_)) <;> try simp -implicitDefEqProofs (maxSteps := 1000000) only [go_sem, seval, *]) | (with_reducible refine at_block (by with_unfolding_all exact rfl) ?_) | (with_reducible refine at_loop (by with_unfolding_all exact rfl) ?_) | ((first | ((with_reducible refine NewK.intro fun g hg hn => ?_) <;> try simp only [own_none_iff] at hn) | ((with_reducible refine GuardB.split (fun hc => ?_) (fun hc => ?_)) <;> (have hc2 := hc; try simp only [beq_eq_false_iff_ne, beq_iff_eq, ne_eq, bne_iff_ne, bne_eq_false_iff_eq, decide_eq_true_eq, decide_eq_false_iff_not, Bool.not_true, Bool.not_false, Int.not_le, Int.not_lt] at hc2)) | ((with_reducible refine CondK.split (fun hc => ?_) (fun hc => ?_)) <;> (have hc2 := hc; try simp only [beq_eq_false_iff_ne, beq_iff_eq, ne_eq, bne_iff_ne, bne_eq_false_iff_eq, decide_eq_true_eq, decide_eq_false_iff_not, Bool.not_true, Bool.not_false, Int.not_le, Int.not_lt] at hc2)) | ((with_reducible refine PickK.split (fun hc => ?_) (fun hc => ?_)) <;> (have hc2 := hc; try simp only [beq_eq_false_iff_ne, beq_iff_eq, ne_eq, bne_iff_ne, bne_eq_false_iff_eq, decide_eq_true_eq, decide_eq_false_iff_not, Bool.not_true, Bool.not_false, Int.not_le, Int.not_lt] at hc2)) | (with_reducible refine dop_buildSlice ?_) | (with_reducible refine dop_build ?_) | ((with_reducible refine GuardD.split (fun hc => ?_) (fun hc => ?_)) <;> (have hc2 := hc; try simp only [beq_eq_false_iff_ne, beq_iff_eq, ne_eq, bne_iff_ne, bne_eq_false_iff_eq, decide_eq_true_eq, decide_eq_false_iff_not, Bool.not_true, Bool.not_false, Int.not_le, Int.not_lt] at hc2)) | (with_reducible refine stp_build ?_) | (with_reducible refine stp_buildSlice ?_) | (with_reducible refine stp_store ?_) | (with_reducible refine stp_ns ?_) | (with_reducible refine NsB.intro (fun h' ho K' hk => by simp -implicitDefEqProofs (maxSteps := 1000000) only [go_sem, seval, *] <;> exact hk) ?_) | (with_reducible refine WrB.intro _ (by simp -implicitDefEqProofs (maxSteps := 1000000) only [go_sem, seval, *]) (fun h' ho K' hk => by simp -implicitDefEqProofs (maxSteps := 1000000) only [go_sem, seval, *]; exact hk) (fun h' ho K' hk => by simp -implicitDefEqProofs (maxSteps := 1000000) only [go_sem, seval, *] at hk; exact hk) (fun h' ho hk => by simp -implicitDefEqProofs (maxSteps := 1000000) only [go_sem, seval, *] at hk <;> with_unfolding_all exact False.elim hk) ?_) | (with_reducible refine WrB.intro _ (by simp -implicitDefEqProofs (maxSteps := 1000000) only [go_sem, seval, *]) (fun h' ho K' hk => by simp -implicitDefEqProofs (maxSteps := 1000000) only [go_sem, seval, *]; exact hk) ?_) | ((with_reducible refine DDraw.auto mo ?_ ?_); kernel_rfl)) <;> simp -implicitDefEqProofs (maxSteps := 1000000) only [go_sem, seval, *]) | (with_reducible refine bi_same ?_))
    have hw := fun g o (e : S0.own g = some o) => own_ne (u0 g o e)
    refine step_D F hT _ S0 _ n p.1.toNat p.2 (T j).2.2 (j * 600000012) gf gs so sn sc gF cF gL cL ld th hd ot0 ot1 oh0 oh1 st0 st1 sp0 sp1 yi0 yi1 nd sh (T j).1 (T j).2.1 hN ⟨by have := pk.out.1; omega⟩ ⟨pk.out.2⟩ ⟨bd.out.1⟩ ⟨by have := bd.out.2; rwa [Int.zero_add] at this⟩ ⟨by have := hm.out; have := hlt.out; omega⟩ hs ⟨fun g o e => ?_⟩ dF dL df hq hsh z1 z2 z3 (by simp -implicitDefEqProofs (maxSteps := 1000000) only [go_sem, seval, *]) (by simp -implicitDefEqProofs (maxSteps := 1000000) only [go_sem, seval, *]) (by simp -implicitDefEqProofs (maxSteps := 1000000) only [go_sem, seval, *]) ⟨?_⟩
    · have a0 := hw g o e
      have a1 := u0 g o e
      simp -implicitDefEqProofs (maxSteps := 1000000) only [go_sem, seval, *]
    · simp -implicitDefEqProofs (maxSteps := 1000000) only [go_sem, seval, *]
      repeat' (first | (with_reducible refine at_seq (by with_unfolding_all exact rfl) ?_) | ((first | (with_reducible refine at_plain (by with_unfolding_all exact rfl) ?_) | (with_reducible refine at_draw (by with_unfolding_all exact rfl) ?_) | (with_reducible refine at_cond (by with_unfolding_all exact rfl) ?_) | (with_reducible refine at_exit (by with_unfolding_all exact rfl) ?_) | (with_reducible refine at_ret (by with_unfolding_all exact rfl) ?_) | (with_reducible refine at_skip (by with_unfolding_all exact rfl) ?_) | (with_reducible refine at_label (by with_unfolding_all exact rfl) ?_)) <;> try simp -implicitDefEqProofs (maxSteps := 1000000) only [go_sem, seval, *]) | (with_reducible refine at_block (by with_unfolding_all exact rfl) ?_) | (with_reducible refine at_loop (by with_unfolding_all exact rfl) ?_) | ((first | ((with_reducible refine NewK.intro fun g hg hn => ?_) <;> try simp only [own_none_iff] at hn) | ((with_reducible refine GuardB.split (fun hc => ?_) (fun hc => ?_)) <;> (have hc2 := hc; try simp only [beq_eq_false_iff_ne, beq_iff_eq, ne_eq, bne_iff_ne, bne_eq_false_iff_eq, decide_eq_true_eq, decide_eq_false_iff_not, Bool.not_true, Bool.not_false, Int.not_le, Int.not_lt] at hc2)) | ((with_reducible refine CondK.split (fun hc => ?_) (fun hc => ?_)) <;> (have hc2 := hc; try simp only [beq_eq_false_iff_ne, beq_iff_eq, ne_eq, bne_iff_ne, bne_eq_false_iff_eq, decide_eq_true_eq, decide_eq_false_iff_not, Bool.not_true, Bool.not_false, Int.not_le, Int.not_lt] at hc2)) | ((with_reducible refine PickK.split (fun hc => ?_) (fun hc => ?_)) <;> (have hc2 := hc; try simp only [beq_eq_false_iff_ne, beq_iff_eq, ne_eq, bne_iff_ne, bne_eq_false_iff_eq, decide_eq_true_eq, decide_eq_false_iff_not, Bool.not_true, Bool.not_false, Int.not_le, Int.not_lt] at hc2)) | (with_reducible refine dop_buildSlice ?_) | (with_reducible refine dop_build ?_) | ((with_reducible refine GuardD.split (fun hc => ?_) (fun hc => ?_)) <;> (have hc2 := hc; try simp only [beq_eq_false_iff_ne, beq_iff_eq, ne_eq, bne_iff_ne, bne_eq_false_iff_eq, decide_eq_true_eq, decide_eq_false_iff_not, Bool.not_true, Bool.not_false, Int.not_le, Int.not_lt] at hc2)) | (with_reducible refine stp_build ?_) | (with_reducible refine stp_buildSlice ?_) | (with_reducible refine stp_store ?_) | (with_reducible refine stp_ns ?_) | (with_reducible refine NsB.intro (fun h' ho K' hk => by simp -implicitDefEqProofs (maxSteps := 1000000) only [go_sem, seval, *] <;> exact hk) ?_) | (with_reducible refine WrB.intro _ (by simp -implicitDefEqProofs (maxSteps := 1000000) only [go_sem, seval, *]) (fun h' ho K' hk => by simp -implicitDefEqProofs (maxSteps := 1000000) only [go_sem, seval, *]; exact hk) (fun h' ho K' hk => by simp -implicitDefEqProofs (maxSteps := 1000000) only [go_sem, seval, *] at hk; exact hk) (fun h' ho hk => by simp -implicitDefEqProofs (maxSteps := 1000000) only [go_sem, seval, *] at hk <;> with_unfolding_all exact False.elim hk) ?_) | (with_reducible refine WrB.intro _ (by simp -implicitDefEqProofs (maxSteps := 1000000) only [go_sem, seval, *]) (fun h' ho K' hk => by simp -implicitDefEqProofs (maxSteps := 1000000) only [go_sem, seval, *]; exact hk) ?_) | ((with_reducible refine DDraw.auto mo ?_ ?_); kernel_rfl)) <;> simp -implicitDefEqProofs (maxSteps := 1000000) only [go_sem, seval, *]) | (with_reducible refine bi_same ?_))
      have hj := hlt.out
      have hk0 := fa0.out
      refine LoopK.intro (k' - 1) (by omega) ⟨j + 1, _, ⟨by omega⟩, ⟨?_⟩, fl_re (by kernel_rfl)⟩
      rw [stp1.out]
      have o := fun (x y z : Obj) => set3_own (S0 := S0) (a := gF) (b := gL) (c := gf) (x := x) (y := y) (z := z) hq.2.2.2.2.1 hq.2.1 hq.2.2.2.1
      exact ⟨set3_sub dF dL df, (o _ _ _).2.2, (o _ _ _).1, (o _ _ _).2.1⟩
  · have c1 : ((j : Int) < (m : Int)) = False := by simp only [eq_iff_iff, iff_false]; omega
    obtain rfl : j = m := by omega
    have hfin := hK.out h (by rw [← tm.out]; exact fa1.out)
    replace hfin := Hold.mk hfin
    clear hjm hlt
    repeat' (first | (with_reducible refine at_seq (by with_unfolding_all exact rfl) ?_) | ((first | (with_reducible refine at_plain (by with_unfolding_all exact rfl) ?_) | (with_reducible refine at_draw (by with_unfolding_all exact rfl) ?_) | (with_reducible refine at_cond (by with_unfolding_all exact rfl) ?_) | (with_reducible refine at_exit (by with_unfolding_all exact rfl) ?_) | (with_reducible refine at_ret (by with_unfolding_all exact rfl) ?_) | (with_reducible refine at_skip (by with_unfolding_all exact rfl) ?_) | (with_reducible refine at_label (by with_unfolding_all exact rfl) ?_)) <;> try simp -implicitDefEqProofs (maxSteps := 1000000) only [go_sem, seval, *]) | (with_reducible refine at_block (by with_unfolding_all exact rfl) ?_) | (with_reducible refine at_loop (by with_unfolding_all exact rfl) ?_) | ((first | ((with_reducible refine NewK.intro fun g hg hn => ?_) <;> try simp only [own_none_iff] at hn) | ((with_reducible refine GuardB.split (fun hc => ?_) (fun hc => ?_)) <;> (have hc2 := hc; try simp only [beq_eq_false_iff_ne, beq_iff_eq, ne_eq, bne_iff_ne, bne_eq_false_iff_eq, decide_eq_true_eq, decide_eq_false_iff_not, Bool.not_true, Bool.not_false, Int.not_le, Int.not_lt] at hc2)) | ((with_reducible refine CondK.split (fun hc => ?_) (fun hc => ?_)) <;> (have hc2 := hc; try simp only [beq_eq_false_iff_ne, beq_iff_eq, ne_eq, bne_iff_ne, bne_eq_false_iff_eq, decide_eq_true_eq, decide_eq_false_iff_not, Bool.not_true, Bool.not_false, Int.not_le, Int.not_lt] at hc2)) | ((with_reducible refine PickK.split (fun hc => ?_) (fun hc => ?_)) <;> (have hc2 := hc; try simp only [beq_eq_false_iff_ne, beq_iff_eq, ne_eq, bne_iff_ne, bne_eq_false_iff_eq, decide_eq_true_eq, decide_eq_false_iff_not, Bool.not_true, Bool.not_false, Int.not_le, Int.not_lt] at hc2)) | (with_reducible refine dop_buildSlice ?_) | (with_reducible refine dop_build ?_) | ((with_reducible refine GuardD.split (fun hc => ?_) (fun hc => ?_)) <;> (have hc2 := hc; try simp only [beq_eq_false_iff_ne, beq_iff_eq, ne_eq, bne_iff_ne, bne_eq_false_iff_eq, decide_eq_true_eq, decide_eq_false_iff_not, Bool.not_true, Bool.not_false, Int.not_le, Int.not_lt] at hc2)) | (with_reducible refine stp_build ?_) | (with_reducible refine stp_buildSlice ?_) | (with_reducible refine stp_store ?_) | (with_reducible refine stp_ns ?_) | (with_reducible refine NsB.intro (fun h' ho K' hk => by simp -implicitDefEqProofs (maxSteps := 1000000) only [go_sem, seval, *] <;> exact hk) ?_) | (with_reducible refine WrB.intro _ (by simp -implicitDefEqProofs (maxSteps := 1000000) only [go_sem, seval, *]) (fun h' ho K' hk => by simp -implicitDefEqProofs (maxSteps := 1000000) only [go_sem, seval, *]; exact hk) (fun h' ho K' hk => by simp -implicitDefEqProofs (maxSteps := 1000000) only [go_sem, seval, *] at hk; exact hk) (fun h' ho hk => by simp -implicitDefEqProofs (maxSteps := 1000000) only [go_sem, seval, *] at hk <;> with_unfolding_all exact False.elim hk) ?_) | (with_reducible refine WrB.intro _ (by simp -implicitDefEqProofs (maxSteps := 1000000) only [go_sem, seval, *]) (fun h' ho K' hk => by simp -implicitDefEqProofs (maxSteps := 1000000) only [go_sem, seval, *]; exact hk) ?_) | ((with_reducible refine DDraw.auto mo ?_ ?_); kernel_rfl)) <;> simp -implicitDefEqProofs (maxSteps := 1000000) only [go_sem, seval, *]) | (with_reducible refine bi_same ?_))
    exact hfin.out

end Go.Proofs.Ytlblahfndlgfmaa
