/-
  Walks. Conditions: none.
-/
import Derived.Test.YtdhhaglaikdpbaaB28
set_option linter.unusedVariables false
set_option linter.unusedSimpArgs false
namespace Go.Proofs.Ytdhhaglaikdpbaa
open Go.RowKit Go.SL
set_option maxHeartbeats 1000000
set_option maxRecDepth 1000000
attribute [local go_sem] i64w
attribute [local go_sem] notAgg_map cells_map MapN_app dwp_makeMap Option.map_none
attribute [local go_sem] dwp_eqGuardE dwp_eqGuardN rval_eqGuardE rval_eqGuardN
theorem isIn_ok (ro : Addr → Option Value) (ld th hd ot0 ot1 oh0 oh1 st0 st1 sp0 sp1 yi0 yi1 f0 f1 w0 w1 : Int) : Cr Try.prog 59 #[.agg #[.int .i64 ld, .int .i64 th, .int .i64 hd, .int .i64 ot0, .int .i64 ot1, .int .i64 oh0, .int .i64 oh1, .int .i64 st0, .int .i64 st1, .int .i64 sp0, .int .i64 sp1, .int .i64 yi0, .int .i64 yi1], .agg #[.int .i64 f0, .int .i64 f1], .agg #[.int .i64 w0, .int .i64 w1]] ro (.bool (allI w0 (min w1 yi0) [f0, f1])) := by
  (refine Cr.of Try.func59 rfl rfl (fun F hF => ?_); simp only [Try.ntmps59, Try.results59, List.size_toArray, List.length_cons, List.length_nil, Nat.reduceAdd, Nat.reduceSub, Array.replicate_succ, Array.replicate_zero, List.push_toArray, List.append_toArray, List.nil_append, List.cons_append]; simp -implicitDefEqProofs (maxSteps := 1000000) only [go_sem, seval])
  subst hF
  try simp -implicitDefEqProofs (maxSteps := 1000000) only [go_sem, seval, *]
  repeat' (first | ((first | ((with_reducible refine NewK.intro fun g hg hn => ?_) <;> try simp only [own_none_iff] at hn) | ((with_reducible refine GuardB.split (fun hc => ?_) (fun hc => ?_)) <;> (have hc2 := hc; try simp only [beq_eq_false_iff_ne, beq_iff_eq, ne_eq, bne_iff_ne, bne_eq_false_iff_eq, decide_eq_true_eq, decide_eq_false_iff_not, Bool.not_true, Bool.not_false, Int.not_le, Int.not_lt] at hc2)) | ((with_reducible refine CondK.split (fun hc => ?_) (fun hc => ?_)) <;> (have hc2 := hc; try simp only [beq_eq_false_iff_ne, beq_iff_eq, ne_eq, bne_iff_ne, bne_eq_false_iff_eq, decide_eq_true_eq, decide_eq_false_iff_not, Bool.not_true, Bool.not_false, Int.not_le, Int.not_lt] at hc2)) | ((with_reducible refine PickK.split (fun hc => ?_) (fun hc => ?_)) <;> (have hc2 := hc; try simp only [beq_eq_false_iff_ne, beq_iff_eq, ne_eq, bne_iff_ne, bne_eq_false_iff_eq, decide_eq_true_eq, decide_eq_false_iff_not, Bool.not_true, Bool.not_false, Int.not_le, Int.not_lt] at hc2)) | (with_reducible refine dop_buildSlice ?_) | (with_reducible refine dop_build ?_) | ((with_reducible refine Cr.call (f := 56) (kwithin_ok _ _ _ _ _ _ _ _ _ _ _ _ _ _ _ _) ?_)) | (with_reducible refine CallV.of (f := 56) (kwithin_ok _ _ _ _ _ _ _ _ _ _ _ _ _ _ _ _) ni56 ?_) | ((with_reducible refine Cr.call (f := 44) (bwithin_ok _ _ _ _ _ _ _ (by simp -implicitDefEqProofs (maxSteps := 1000000) only [go_sem, seval, *]) ⟨by decide⟩) ?_)) | (with_reducible refine CallV.of (f := 44) (bwithin_ok _ _ _ _ _ _ _ (by simp -implicitDefEqProofs (maxSteps := 1000000) only [go_sem, seval, *]) ⟨by decide⟩) ni44 ?_) | ((with_reducible refine GuardD.split (fun hc => ?_) (fun hc => ?_)) <;> (have hc2 := hc; try simp only [beq_eq_false_iff_ne, beq_iff_eq, ne_eq, bne_iff_ne, bne_eq_false_iff_eq, decide_eq_true_eq, decide_eq_false_iff_not, Bool.not_true, Bool.not_false, Int.not_le, Int.not_lt] at hc2)) | (with_reducible refine stp_build ?_) | (with_reducible refine stp_buildSlice ?_) | (with_reducible refine stp_store ?_) | (with_reducible refine stp_ns ?_) | (with_reducible refine NsB.intro (fun h' ho K' hk => by simp -implicitDefEqProofs (maxSteps := 1000000) only [go_sem, seval, *] <;> exact hk) ?_) | (with_reducible refine WrB.intro _ (by simp -implicitDefEqProofs (maxSteps := 1000000) only [go_sem, seval, *]) (fun h' ho K' hk => by simp -implicitDefEqProofs (maxSteps := 1000000) only [go_sem, seval, *]; exact hk) ?_) | ((with_reducible refine DDraw.auto mo ?_ ?_); kernel_rfl)) <;> simp -implicitDefEqProofs (maxSteps := 1000000) only [go_sem, seval, *]) | (with_reducible refine bi_same ?_))
def fineW (ld th hd ot0 ot1 oh0 oh1 st0 st1 sp0 sp1 yi0 yi1 w0 w1 : Int) (w : Way) : Bool := allI w0 (min w1 yi0) [fLo ld th hd ot0 ot1 oh0 oh1 st0 st1 sp0 sp1 yi0 yi1 w.k w.t0 w.t1 w.a0 w.a1 w.s0 w.s1, fHi ld th hd ot0 ot1 oh0 oh1 st0 st1 sp0 sp1 yi0 yi1 w.k w.t0 w.t1 w.a0 w.a1 w.s0 w.s1]
def widW (ld th hd ot0 ot1 oh0 oh1 st0 st1 sp0 sp1 yi0 yi1 : Int) (w : Way) : Int := fHi ld th hd ot0 ot1 oh0 oh1 st0 st1 sp0 sp1 yi0 yi1 w.k w.t0 w.t1 w.a0 w.a1 w.s0 w.s1 - fLo ld th hd ot0 ot1 oh0 oh1 st0 st1 sp0 sp1 yi0 yi1 w.k w.t0 w.t1 w.a0 w.a1 w.s0 w.s1
/-- The ways that are taken: their numbers, with a number of each. -/
def selP (p : Way → Bool) (f : Way → Int) : List Way → Int → List (Int × Int)
  | [], _ => []
  | w :: r, i => if p w then (i, f w) :: selP p f r (i + 1) else selP p f r (i + 1)
theorem selP_snoc (p : Way → Bool) (f : Way → Int) (w : Way) : ∀ (l : List Way) (i : Int), selP p f (l ++ [w]) i = selP p f l i ++ (if p w then [(i + l.length, f w)] else []) := by
  intro l
  induction l with
  | nil => intro i; by_cases h : p w = true <;> simp [selP, h]
  | cons v r ih =>
    intro i
    rw [List.cons_append, selP, selP, ih]
    have e : i + 1 + (r.length : Int) = i + ((v :: r).length : Int) := by simp; omega
    rw [e]
    by_cases h : p v = true <;> simp [h]
theorem selP_key (p : Way → Bool) (f : Way → Int) : ∀ (l : List Way) (i : Int) (q : Int × Int), q ∈ selP p f l i → i ≤ q.1 ∧ q.1 < i + l.length := by
  intro l
  induction l with
  | nil => intro i q hq; cases hq
  | cons v r ih =>
    intro i q hq
    rw [selP] at hq
    split at hq
    · rcases List.mem_cons.1 hq with rfl | hq
      · simp; omega
      · have := ih _ _ hq; simp; omega
    · have := ih _ _ hq; simp; omega
theorem lookL_none {l : List (Int × Int)} {k : Int} (h : ∀ q ∈ l, q.1 ≠ k) : lookL l k = none := by
  induction l with
  | nil => rfl
  | cons p r ih => rw [lookL, if_neg (fun e => h p (by simp) e.symm)]; exact ih fun q hq => h q (by simp [hq])
theorem selP_look (p : Way → Bool) (f : Way → Int) : ∀ (l : List Way) (i : Int) (j : Nat) (q : Int × Int), (selP p f l i)[j]? = some q → lookL (selP p f l i) q.1 = some q.2 := by
  intro l
  induction l with
  | nil => intro i j q h; simp [selP] at h
  | cons v r ih =>
    intro i j q h
    rw [selP] at h ⊢
    split at h
    · rename_i hv
      rw [if_pos hv]
      cases j with
      | zero => simp at h; subst h; simp [lookL]
      | succ j =>
        have h2 : (selP p f r (i + 1))[j]? = some q := by simpa using h
        have := selP_key p f r (i + 1) q (List.mem_of_getElem? h2)
        rw [lookL, if_neg (by simp; omega)]
        exact ih _ _ _ h2
    · rename_i hv
      rw [if_neg hv]
      exact ih _ _ _ h
theorem selP_len (p : Way → Bool) (f : Way → Int) : ∀ (l : List Way) (i : Int), (selP p f l i).length ≤ l.length := by
  intro l
  induction l with
  | nil => intro i; exact Nat.le_refl _
  | cons v r ih => intro i; rw [selP]; have := ih (i + 1); split <;> simp <;> omega
theorem selP_val (p : Way → Bool) (f : Way → Int) : ∀ (l : List Way) (i : Int) (q : Int × Int), q ∈ selP p f l i → ∃ w ∈ l, q.2 = f w := by
  intro l
  induction l with
  | nil => intro i q hq; cases hq
  | cons v r ih =>
    intro i q hq
    rw [selP] at hq
    split at hq
    · rcases List.mem_cons.1 hq with rfl | hq
      · exact ⟨v, by simp, rfl⟩
      · obtain ⟨w, h1, h2⟩ := ih _ _ hq; exact ⟨w, by simp [h1], h2⟩
    · obtain ⟨w, h1, h2⟩ := ih _ _ hq; exact ⟨w, by simp [h1], h2⟩
def keepH (h h' : Hp) : Prop := ∀ g o, h.own g = some o → h'.own g = some o
theorem keepH.cell {F : Fr} {h h' : Hp} (k : keepH h h') {a : Addr} {v : Value} (e : h.cell? F a = some v) : h'.cell? F a = some v := by
  unfold Hp.cell? at e ⊢
  cases hro : F.ro a with
  | some u => rw [hro] at e; exact e
  | none =>
    rw [hro] at e
    cases ho : h.own a.block with
    | none => rw [ho] at e; cases e
    | some o => rw [ho] at e; rw [k _ _ ho]; exact e
theorem keepH.set {h h' : Hp} {g : Nat} {o : Obj} (k : keepH h h') (hg : h.own g = none) : keepH h (h'.set g o) := fun b ob hb => by
  rw [Hp.own_set, if_neg (by rintro rfl; rw [hg] at hb; cases hb)]; exact k b ob hb
theorem keepH.none {h h' : Hp} (k : keepH h h') {g : Nat} (e : h'.own g = none) : h.own g = none := by
  cases ho : h.own g with
  | none => rfl
  | some o => rw [k _ _ ho] at e; cases e
def IBest (ld th hd ot0 ot1 oh0 oh1 st0 st1 sp0 sp1 yi0 yi1 w0 w1 : Int) (ws : List Way) (n b off c : Nat) (g5 g8 g11 gm : Nat) (F : Fr) (h0 : Hp) (k : Nat) (a : Act) (h : Hp) : Prop :=
  ∃ (i : Nat) (v6 : Value), Hold (i + k = n) ∧ Hold (keepH h0 h) ∧ h.own g5 = some (.cells #[.int .i64 w0, .int .i64 w1] 23) ∧ h.own g8 = some (.cells #[.int .i64 ld, .int .i64 th, .int .i64 hd, .int .i64 ot0, .int .i64 ot1, .int .i64 oh0, .int .i64 oh1, .int .i64 st0, .int .i64 st1, .int .i64 sp0, .int .i64 sp1, .int .i64 yi0, .int .i64 yi1] 102) ∧ h.own g11 = some (.cells #[.map (some gm)] 114) ∧ h.own gm = some (.map (mkEs (selP (fineW ld th hd ot0 ot1 oh0 oh1 st0 st1 sp0 sp1 yi0 yi1 w0 w1) (widW ld th hd ot0 ot1 oh0 oh1 st0 st1 sp0 sp1 yi0 yi1) (ws.take i) 0) 0).toArray (selP (fineW ld th hd ot0 ot1 oh0 oh1 st0 st1 sp0 sp1 yi0 yi1 w0 w1) (widW ld th hd ot0 ot1 oh0 oh1 st0 st1 sp0 sp1 yi0 yi1) (ws.take i) 0).length) ∧ Own F h 3 1 v6 (selP (fineW ld th hd ot0 ot1 oh0 oh1 st0 st1 sp0 sp1 yi0 yi1 w0 w1) (widW ld th hd ot0 ot1 oh0 oh1 st0 st1 sp0 sp1 yi0 yi1) (ws.take i) 0).length (ints ((selP (fineW ld th hd ot0 ot1 oh0 oh1 st0 st1 sp0 sp1 yi0 yi1 w0 w1) (widW ld th hd ot0 ot1 oh0 oh1 st0 st1 sp0 sp1 yi0 yi1) (ws.take i) 0).map (·.1))) ∧ Hold (∀ x, x = g5 ∨ x = g8 ∨ x = g11 ∨ x = gm → blk v6 ≠ some x ∧ h0.own x = none) ∧ Hold (∀ x, blk v6 = some x → h0.own x = none) ∧ a = (fun x : Nat → Value => (⟨#[x 0, .slice (some ⟨b, off, none⟩) n c, x 2, x 3, x 4, .pointer (some ⟨g5, 0, none⟩), v6, .int .i64 0, .pointer (some ⟨g8, 0, none⟩), x 9, x 10, .pointer (some ⟨g11, 0, none⟩), x 12, x 13, x 14, x 15, x 16, x 17, x 18, x 19, x 20, x 21, x 22, x 23, x 24, x 25, x 26, x 27, x 28, x 29, x 30, x 31, x 32, x 33, x 34, x 35, x 36, x 37, x 38, x 39, x 40, .slice (some ⟨b, off, none⟩) n c, .int .i64 n, .int .i64 i, x 44, x 45, x 46, x 47, x 48, x 49, x 50, x 51, x 52, x 53, x 54, x 55, x 56, x 57, x 58, x 59, x 60, x 61, x 62, x 63, x 64, x 65, x 66, x 67, x 68, x 69, x 70, x 71, x 72, x 73], []⟩ : Act)) (fun i => a.tmps.getD i undef)
set_option maxHeartbeats 8000000 in
theorem bestD (F : Fr) (h : Hp) (K : Value → Hp → Prop) (ld th hd ot0 ot1 oh0 oh1 st0 st1 sp0 sp1 yi0 yi1 w0 w1 : Int) (ws : List Way) (n b off c : Nat) (hn19 : Hold (n ≤ 19)) (hr : Hold (readV (h.cell? F) b off (n * 7) = some (ws.flatMap Way.cs))) (hv : BoltOk ld th hd ot0 ot1 oh0 oh1 st0 st1 sp0 sp1 yi0 yi1) (hw : Hold (∀ w ∈ ws, w.ok = true)) (hwn : spB 0 100000000 w0 w1 = true)
    (hs : Hold (∀ (i : Nat) x y, ((selP (fineW ld th hd ot0 ot1 oh0 oh1 st0 st1 sp0 sp1 yi0 yi1 w0 w1) (widW ld th hd ot0 ot1 oh0 oh1 st0 st1 sp0 sp1 yi0 yi1) ws 0).map (·.2))[i]? = some x → ((selP (fineW ld th hd ot0 ot1 oh0 oh1 st0 st1 sp0 sp1 yi0 yi1 w0 w1) (widW ld th hd ot0 ot1 oh0 oh1 st0 st1 sp0 sp1 yi0 yi1) ws 0).map (·.2))[i + 1]? = some y → x ≤ y))
    (k0 : selP (fineW ld th hd ot0 ot1 oh0 oh1 st0 st1 sp0 sp1 yi0 yi1 w0 w1) (widW ld th hd ot0 ot1 oh0 oh1 st0 st1 sp0 sp1 yi0 yi1) ws 0 = [] → ∀ h', keepH h h' → K (.tuple #[.slice none 0 0, .int .i64 7]) h')
    (k1 : selP (fineW ld th hd ot0 ot1 oh0 oh1 st0 st1 sp0 sp1 yi0 yi1 w0 w1) (widW ld th hd ot0 ot1 oh0 oh1 st0 st1 sp0 sp1 yi0 yi1) ws 0 ≠ [] → ∀ v' h', keepH h h' → (∀ x, blk v' = some x → h.own x = none) → Own F h' 3 1 v' (selP (fineW ld th hd ot0 ot1 oh0 oh1 st0 st1 sp0 sp1 yi0 yi1 w0 w1) (widW ld th hd ot0 ot1 oh0 oh1 st0 st1 sp0 sp1 yi0 yi1) ws 0).length (ints ((selP (fineW ld th hd ot0 ot1 oh0 oh1 st0 st1 sp0 sp1 yi0 yi1 w0 w1) (widW ld th hd ot0 ot1 oh0 oh1 st0 st1 sp0 sp1 yi0 yi1) ws 0).map (·.1))) → K (.tuple #[v', .int .i64 0]) h') :
    DCall Try.prog F 29 #[.agg #[.int .i64 ld, .int .i64 th, .int .i64 hd, .int .i64 ot0, .int .i64 ot1, .int .i64 oh0, .int .i64 oh1, .int .i64 st0, .int .i64 st1, .int .i64 sp0, .int .i64 sp1, .int .i64 yi0, .int .i64 yi1], .slice (some ⟨b, off, none⟩) n c, .agg #[.int .i64 w0, .int .i64 w1]] h K := by
  have hz : checkV ld th hd ot0 ot1 oh0 oh1 st0 st1 sp0 sp1 yi0 yi1 = 0 := by unfold checkV; rw [if_pos (boltB_iff.2 hv)]
  have ho : openV ld th hd ot0 ot1 oh0 oh1 st0 st1 sp0 sp1 yi0 yi1 (ws.any fun w => !w.ok) = 0 := by
    unfold openV; rw [if_pos (boltB_iff.2 hv), if_neg]
    simp only [List.any_eq_true, not_exists]
    rintro w ⟨h1, h2⟩
    rw [hw.out w h1] at h2; cases h2
  have hnn : Hold (n < 2 ^ 63) := ⟨by have := hn19.out; omega⟩
  have c20 : ((n : Int) > 20) = False := by have := hn19.out; simp; omega
  replace hv := Hold.mk hv
  have k0' := Hold.mk k0
  have k1' := Hold.mk k1
  clear k0 k1
  (refine DCall.inl Try.func29 rfl rfl ?_; simp only [Try.ntmps29, Try.results29, List.size_toArray, List.length_cons, List.length_nil, Nat.reduceAdd, Nat.reduceSub, Array.replicate_succ, Array.replicate_zero, List.push_toArray, List.append_toArray, List.nil_append, List.cons_append]; simp -implicitDefEqProofs (maxSteps := 1000000) only [go_sem, seval])
  repeat' (first | ((first | ((with_reducible refine NewK.intro fun g hg hn => ?_) <;> try simp only [own_none_iff] at hn) | ((with_reducible refine GuardB.split (fun hc => ?_) (fun hc => ?_)) <;> (have hc2 := hc; try simp only [beq_eq_false_iff_ne, beq_iff_eq, ne_eq, bne_iff_ne, bne_eq_false_iff_eq, decide_eq_true_eq, decide_eq_false_iff_not, Bool.not_true, Bool.not_false, Int.not_le, Int.not_lt] at hc2)) | ((with_reducible refine CondK.split (fun hc => ?_) (fun hc => ?_)) <;> (have hc2 := hc; try simp only [beq_eq_false_iff_ne, beq_iff_eq, ne_eq, bne_iff_ne, bne_eq_false_iff_eq, decide_eq_true_eq, decide_eq_false_iff_not, Bool.not_true, Bool.not_false, Int.not_le, Int.not_lt] at hc2)) | ((with_reducible refine PickK.split (fun hc => ?_) (fun hc => ?_)) <;> (have hc2 := hc; try simp only [beq_eq_false_iff_ne, beq_iff_eq, ne_eq, bne_iff_ne, bne_eq_false_iff_eq, decide_eq_true_eq, decide_eq_false_iff_not, Bool.not_true, Bool.not_false, Int.not_le, Int.not_lt] at hc2)) | (with_reducible refine dop_buildSlice ?_) | (with_reducible refine dop_build ?_) | ((with_reducible refine Cr.call (f := 46) (open0B _ _ _ _ _ _ _ _ _ _ _ _ _ _) ?_)) | (with_reducible refine CallV.of (f := 46) (open0B _ _ _ _ _ _ _ _ _ _ _ _ _ _) ni46 ?_) | ((with_reducible refine Cr.call (f := 46) (openB _ _ _ _ _ _ _ _ _ _ _ _ _ _ _ _ _ _ ws (readV_mono (fun a u e => keepH.cell (fun g o hg => by simp only [Hp.own_set]; (repeat rw [if_neg (by rintro rfl; simp_all)]); exact hg) e) hr.out) hnn) ?_)) | (with_reducible refine CallV.of (f := 46) (openB _ _ _ _ _ _ _ _ _ _ _ _ _ _ _ _ _ _ ws (readV_mono (fun a u e => keepH.cell (fun g o hg => by simp only [Hp.own_set]; (repeat rw [if_neg (by rintro rfl; simp_all)]); exact hg) e) hr.out) hnn) ni46 ?_) | ((with_reducible refine Cr.call (f := 48) (isForceB _ _ _) ?_)) | (with_reducible refine CallV.of (f := 48) (isForceB _ _ _) ni48 ?_) | ((with_reducible refine GuardD.split (fun hc => ?_) (fun hc => ?_)) <;> (have hc2 := hc; try simp only [beq_eq_false_iff_ne, beq_iff_eq, ne_eq, bne_iff_ne, bne_eq_false_iff_eq, decide_eq_true_eq, decide_eq_false_iff_not, Bool.not_true, Bool.not_false, Int.not_le, Int.not_lt] at hc2)) | (with_reducible refine stp_build ?_) | (with_reducible refine stp_buildSlice ?_) | (with_reducible refine stp_store ?_) | (with_reducible refine stp_ns ?_) | (with_reducible refine NsB.intro (fun h' ho K' hk => by simp -implicitDefEqProofs (maxSteps := 1000000) only [go_sem, seval, *] <;> exact hk) ?_) | (with_reducible refine WrB.intro _ (by simp -implicitDefEqProofs (maxSteps := 1000000) only [go_sem, seval, *]) (fun h' ho K' hk => by simp -implicitDefEqProofs (maxSteps := 1000000) only [go_sem, seval, *]; exact hk) ?_) | ((with_reducible refine DDraw.auto mo ?_ ?_); kernel_rfl)) <;> simp -implicitDefEqProofs (maxSteps := 1000000) only [go_sem, seval, *]) | (with_reducible refine bi_same ?_))
  refine Cr.call (openB _ _ _ _ _ _ _ _ _ _ _ _ _ _ _ _ _ _ ws (readV_mono (fun a u e => keepH.cell (fun g o hg => by simp only [Hp.own_set]; (repeat rw [if_neg (by rintro rfl; simp_all)]); exact hg) e) hr.out) hnn) ?_
  simp -implicitDefEqProofs (maxSteps := 1000000) only [go_sem, seval, *]
  repeat' (first | ((first | ((with_reducible refine NewK.intro fun g hg hn => ?_) <;> try simp only [own_none_iff] at hn) | ((with_reducible refine GuardB.split (fun hc => ?_) (fun hc => ?_)) <;> (have hc2 := hc; try simp only [beq_eq_false_iff_ne, beq_iff_eq, ne_eq, bne_iff_ne, bne_eq_false_iff_eq, decide_eq_true_eq, decide_eq_false_iff_not, Bool.not_true, Bool.not_false, Int.not_le, Int.not_lt] at hc2)) | ((with_reducible refine CondK.split (fun hc => ?_) (fun hc => ?_)) <;> (have hc2 := hc; try simp only [beq_eq_false_iff_ne, beq_iff_eq, ne_eq, bne_iff_ne, bne_eq_false_iff_eq, decide_eq_true_eq, decide_eq_false_iff_not, Bool.not_true, Bool.not_false, Int.not_le, Int.not_lt] at hc2)) | ((with_reducible refine PickK.split (fun hc => ?_) (fun hc => ?_)) <;> (have hc2 := hc; try simp only [beq_eq_false_iff_ne, beq_iff_eq, ne_eq, bne_iff_ne, bne_eq_false_iff_eq, decide_eq_true_eq, decide_eq_false_iff_not, Bool.not_true, Bool.not_false, Int.not_le, Int.not_lt] at hc2)) | (with_reducible refine dop_buildSlice ?_) | (with_reducible refine dop_build ?_) | ((with_reducible refine Cr.call (f := 48) (isForceB _ _ _) ?_)) | (with_reducible refine CallV.of (f := 48) (isForceB _ _ _) ni48 ?_) | ((with_reducible refine GuardD.split (fun hc => ?_) (fun hc => ?_)) <;> (have hc2 := hc; try simp only [beq_eq_false_iff_ne, beq_iff_eq, ne_eq, bne_iff_ne, bne_eq_false_iff_eq, decide_eq_true_eq, decide_eq_false_iff_not, Bool.not_true, Bool.not_false, Int.not_le, Int.not_lt] at hc2)) | (with_reducible refine stp_build ?_) | (with_reducible refine stp_buildSlice ?_) | (with_reducible refine stp_store ?_) | (with_reducible refine stp_ns ?_) | (with_reducible refine NsB.intro (fun h' ho K' hk => by simp -implicitDefEqProofs (maxSteps := 1000000) only [go_sem, seval, *] <;> exact hk) ?_) | (with_reducible refine WrB.intro _ (by simp -implicitDefEqProofs (maxSteps := 1000000) only [go_sem, seval, *]) (fun h' ho K' hk => by simp -implicitDefEqProofs (maxSteps := 1000000) only [go_sem, seval, *]; exact hk) ?_) | ((with_reducible refine DDraw.auto mo ?_ ?_); kernel_rfl)) <;> simp -implicitDefEqProofs (maxSteps := 1000000) only [go_sem, seval, *]) | (with_reducible refine bi_same ?_))
  rename_i g3 hg3 hn3 g5 hg5 hn5 g8 hg8 hn8 g9 hg9 hn9 gm hgm hnm
  generalize hgg : g = g11 at *
  clear hgg
  refine DLoop.ind (IBest ld th hd ot0 ot1 oh0 oh1 st0 st1 sp0 sp1 yi0 yi1 w0 w1 ws n b off c g5 g8 g11 gm F h) n ⟨0, .slice none 0 0, ⟨by omega⟩, ⟨(fun g o hg => by simp only [Hp.own_set]; (repeat rw [if_neg (by rintro rfl; simp_all)]); exact hg)⟩, (by simp -implicitDefEqProofs (maxSteps := 1000000) only [go_sem, seval, *]), (by simp -implicitDefEqProofs (maxSteps := 1000000) only [go_sem, seval, *]), (by simp -implicitDefEqProofs (maxSteps := 1000000) only [go_sem, seval, *]), (by simp -implicitDefEqProofs (maxSteps := 1000000) only [go_sem, seval, *]; rfl), Own.nil, ⟨by rintro x (rfl | rfl | rfl | rfl) <;> simp_all [blk]⟩, ⟨by simp [blk]⟩, (by kernel_rfl)⟩ ?_
  generalize hh : h = h0 at *
  clear hh
  (rintro k a h ⟨i, v6, fa0, fa1, fa2, fa3, fa4, fa5, fa6, fa7, fa8, ha⟩; generalize (fun i => Array.getD a.tmps i undef) = x at ha; dsimp only at ha; subst ha)
  have p6 := fa6.nblk
  have w5 := own_cells fa2
  have w8 := own_cells fa3
  have w11 := own_cells fa4
  have wm := own_cells fa5
  have q5 := (fa7.out g5 (by simp)).1
  have q8 := (fa7.out g8 (by simp)).1
  have q11 := (fa7.out g11 (by simp)).1
  have qm := (fa7.out gm (by simp)).1
  have hlen : ws.length = n := by
    have h1 := readV_len hr.out
    rw [flat_len Way.cs_len] at h1
    omega
  simp -implicitDefEqProofs (maxSteps := 1000000) only [go_sem, seval, *]
  refine CondK.split (fun hc => ?_) (fun hc => ?_)
  · have hlt : i < n := by simpa using hc
    have i0 : (0 : Int) ≤ (i : Int) := by omega
    have i1 : (i : Int) < (n : Int) := by omega
    have hxi : ws[i]? = some ws[i] := List.getElem?_eq_getElem (by omega)
    have hro := readV_at Way.cs_len hr.out hxi
    have hok := hw.out ws[i] (List.getElem_mem _)
    have htk : ws.take (i + 1) = ws.take i ++ [ws[i]] := by rw [List.take_add_one, hxi]; rfl
    have htl : (ws.take i).length = i := by rw [List.length_take]; omega
    have iw : IntKind.i64.wrap ((i : Int) + 1) = ((i + 1 : Nat) : Int) := by
      have := hn19.out
      rw [IntWalk.i64_in _ (by omega)]; push_cast; rfl
    generalize hwv : ws[i] = w at *
    have e0 := keepH.cell fa1.out (hro 0 _ rfl)
    have e1 := keepH.cell fa1.out (hro 1 _ rfl)
    have e2 := keepH.cell fa1.out (hro 2 _ rfl)
    have e3 := keepH.cell fa1.out (hro 3 _ rfl)
    have e4 := keepH.cell fa1.out (hro 4 _ rfl)
    have e5 := keepH.cell fa1.out (hro 5 _ rfl)
    have e6 := keepH.cell fa1.out (hro 6 _ rfl)
    rw [Hp.cell_def] at e0 e1 e2 e3 e4 e5 e6
    have hok' : wayB w.k w.t0 w.t1 w.a0 w.a1 w.s0 w.s1 = true := hok
    have fbd := force_bd hv.out hok'
    have wrb : IntKind.i64.wrap (fHi ld th hd ot0 ot1 oh0 oh1 st0 st1 sp0 sp1 yi0 yi1 w.k w.t0 w.t1 w.a0 w.a1 w.s0 w.s1 - fLo ld th hd ot0 ot1 oh0 oh1 st0 st1 sp0 sp1 yi0 yi1 w.k w.t0 w.t1 w.a0 w.a1 w.s0 w.s1) = widW ld th hd ot0 ot1 oh0 oh1 st0 st1 sp0 sp1 yi0 yi1 w := IntWalk.i64_in _ (by omega)
    have fbh := Hold.mk fbd
    clear fbd hro
    simp -implicitDefEqProofs (maxSteps := 1000000) only [go_sem, seval, hc, i0, i1, e0, e1, e2, e3, e4, e5, e6, add_none]
    repeat' (first | ((first | ((with_reducible refine NewK.intro fun g hg hn => ?_) <;> try simp only [own_none_iff] at hn) | ((with_reducible refine GuardB.split (fun hc => ?_) (fun hc => ?_)) <;> (have hc2 := hc; try simp only [beq_eq_false_iff_ne, beq_iff_eq, ne_eq, bne_iff_ne, bne_eq_false_iff_eq, decide_eq_true_eq, decide_eq_false_iff_not, Bool.not_true, Bool.not_false, Int.not_le, Int.not_lt] at hc2)) | ((with_reducible refine CondK.split (fun hc => ?_) (fun hc => ?_)) <;> (have hc2 := hc; try simp only [beq_eq_false_iff_ne, beq_iff_eq, ne_eq, bne_iff_ne, bne_eq_false_iff_eq, decide_eq_true_eq, decide_eq_false_iff_not, Bool.not_true, Bool.not_false, Int.not_le, Int.not_lt] at hc2)) | ((with_reducible refine PickK.split (fun hc => ?_) (fun hc => ?_)) <;> (have hc2 := hc; try simp only [beq_eq_false_iff_ne, beq_iff_eq, ne_eq, bne_iff_ne, bne_eq_false_iff_eq, decide_eq_true_eq, decide_eq_false_iff_not, Bool.not_true, Bool.not_false, Int.not_le, Int.not_lt] at hc2)) | (with_reducible refine dop_buildSlice ?_) | (with_reducible refine dop_build ?_) | ((with_reducible refine Cr.call (f := 47) (forceG _ _ _ _ _ _ _ _ _ _ _ _ _ _ _ _ _ _ _ _ _ hv.out hok') ?_)) | (with_reducible refine CallV.of (f := 47) (forceG _ _ _ _ _ _ _ _ _ _ _ _ _ _ _ _ _ _ _ _ _ hv.out hok') ni47 ?_) | ((with_reducible refine Cr.call (f := 59) (isIn_ok _ _ _ _ _ _ _ _ _ _ _ _ _ _ _ _ _ _) ?_)) | (with_reducible refine CallV.of (f := 59) (isIn_ok _ _ _ _ _ _ _ _ _ _ _ _ _ _ _ _ _ _) ni59 ?_) | ((with_reducible refine GuardD.split (fun hc => ?_) (fun hc => ?_)) <;> (have hc2 := hc; try simp only [beq_eq_false_iff_ne, beq_iff_eq, ne_eq, bne_iff_ne, bne_eq_false_iff_eq, decide_eq_true_eq, decide_eq_false_iff_not, Bool.not_true, Bool.not_false, Int.not_le, Int.not_lt] at hc2)) | (with_reducible refine stp_build ?_) | (with_reducible refine stp_buildSlice ?_) | (with_reducible refine stp_store ?_) | (with_reducible refine stp_ns ?_) | (with_reducible refine NsB.intro (fun h' ho K' hk => by simp -implicitDefEqProofs (maxSteps := 1000000) only [go_sem, seval, *] <;> exact hk) ?_) | (with_reducible refine WrB.intro _ (by simp -implicitDefEqProofs (maxSteps := 1000000) only [go_sem, seval, *]) (fun h' ho K' hk => by simp -implicitDefEqProofs (maxSteps := 1000000) only [go_sem, seval, *]; exact hk) ?_) | ((with_reducible refine DDraw.auto mo ?_ ?_); kernel_rfl)) <;> simp -implicitDefEqProofs (maxSteps := 1000000) only [go_sem, seval, *]) | (with_reducible refine bi_same ?_))
    · rename_i g13 hg13 hn13 g14 hg14 hn14
      have hf : fineW ld th hd ot0 ot1 oh0 oh1 st0 st1 sp0 sp1 yi0 yi1 w0 w1 w = true := by simp only [fineW, allI_cons, allI_nil, Bool.and_true]; exact hc
      have hsel : selP (fineW ld th hd ot0 ot1 oh0 oh1 st0 st1 sp0 sp1 yi0 yi1 w0 w1) (widW ld th hd ot0 ot1 oh0 oh1 st0 st1 sp0 sp1 yi0 yi1) (ws.take (i + 1)) 0 = selP (fineW ld th hd ot0 ot1 oh0 oh1 st0 st1 sp0 sp1 yi0 yi1 w0 w1) (widW ld th hd ot0 ot1 oh0 oh1 st0 st1 sp0 sp1 yi0 yi1) (ws.take i) 0 ++ [((i : Int), widW ld th hd ot0 ot1 oh0 oh1 st0 st1 sp0 sp1 yi0 yi1 w)] := by
        rw [htk, selP_snoc, if_pos hf, htl, Int.zero_add]
      have hnl : lookL (selP (fineW ld th hd ot0 ot1 oh0 oh1 st0 st1 sp0 sp1 yi0 yi1 w0 w1) (widW ld th hd ot0 ot1 oh0 oh1 st0 st1 sp0 sp1 yi0 yi1) (ws.take i) 0) (i : Int) = none := lookL_none fun q hq => by
        have := selP_key _ _ _ _ _ hq
        rw [htl] at this; omega
      have hll : (selP (fineW ld th hd ot0 ot1 oh0 oh1 st0 st1 sp0 sp1 yi0 yi1 w0 w1) (widW ld th hd ot0 ot1 oh0 oh1 st0 st1 sp0 sp1 yi0 yi1) (ws.take i) 0).length ≤ 19 := by
        have h1 := selP_len (fineW ld th hd ot0 ot1 oh0 oh1 st0 st1 sp0 sp1 yi0 yi1 w0 w1) (widW ld th hd ot0 ot1 oh0 oh1 st0 st1 sp0 sp1 yi0 yi1) (ws.take i) 0
        have h2 := hn19.out
        omega
      refine AppD.own Try.underlying55 inf_int (by decide) (by decide) (((fa6.other (p6 g13 hn13)).other (p6 g14 hn14.2.2)).other (p6 g hn.2.2.2.2)) (ys := [.int .i64 i]) (by simp -implicitDefEqProofs (maxSteps := 1000000) only [go_sem, seval, *]) one_agg (by omega) fun u6 gA obA hA bA r6 => ?_
      have a5 := ne2 (fresh_ne (x := g5) hA q5 (by simp -implicitDefEqProofs (maxSteps := 1000000) only [go_sem, seval, *]; rfl))
      have a8 := ne2 (fresh_ne (x := g8) hA q8 (by simp -implicitDefEqProofs (maxSteps := 1000000) only [go_sem, seval, *]; rfl))
      have a11 := ne2 (fresh_ne (x := g11) hA q11 (by simp -implicitDefEqProofs (maxSteps := 1000000) only [go_sem, seval, *]; rfl))
      have a14 := ne2 (fresh_ne (x := g14) hA (p6 g14 hn14.2.2) (by simp -implicitDefEqProofs (maxSteps := 1000000) only [go_sem, seval, *]; rfl))
      have am := ne2 (fresh_ne (x := gm) hA qm (by simp -implicitDefEqProofs (maxSteps := 1000000) only [go_sem, seval, *]; rfl))
      simp -implicitDefEqProofs (maxSteps := 1000000) only [go_sem, seval, *]
      rw [dwp_updateI (l := selP (fineW ld th hd ot0 ot1 oh0 oh1 st0 st1 sp0 sp1 yi0 yi1 w0 w1) (widW ld th hd ot0 ot1 oh0 oh1 st0 st1 sp0 sp1 yi0 yi1) (ws.take i) 0) (b := 0) (c := (selP (fineW ld th hd ot0 ot1 oh0 oh1 st0 st1 sp0 sp1 yi0 yi1 w0 w1) (widW ld th hd ot0 ot1 oh0 oh1 st0 st1 sp0 sp1 yi0 yi1) (ws.take i) 0).length) Try.underlying114 Try.underlying3 (by simp -implicitDefEqProofs (maxSteps := 1000000) only [go_sem, seval, *]) hnl]
      simp -implicitDefEqProofs (maxSteps := 1000000) only [go_sem, seval, *]
      have p0 := fa0.out
      have hobj : Obj.map (mkEs (selP (fineW ld th hd ot0 ot1 oh0 oh1 st0 st1 sp0 sp1 yi0 yi1 w0 w1) (widW ld th hd ot0 ot1 oh0 oh1 st0 st1 sp0 sp1 yi0 yi1) (ws.take i) 0) 0 ++ ([⟨.int .i64 (i : Int), .int .i64 (widW ld th hd ot0 ot1 oh0 oh1 st0 st1 sp0 sp1 yi0 yi1 w), (selP (fineW ld th hd ot0 ot1 oh0 oh1 st0 st1 sp0 sp1 yi0 yi1 w0 w1) (widW ld th hd ot0 ot1 oh0 oh1 st0 st1 sp0 sp1 yi0 yi1) (ws.take i) 0).length⟩] : List MapEntry)).toArray ((selP (fineW ld th hd ot0 ot1 oh0 oh1 st0 st1 sp0 sp1 yi0 yi1 w0 w1) (widW ld th hd ot0 ot1 oh0 oh1 st0 st1 sp0 sp1 yi0 yi1) (ws.take i) 0).length + 1) = Obj.map (mkEs (selP (fineW ld th hd ot0 ot1 oh0 oh1 st0 st1 sp0 sp1 yi0 yi1 w0 w1) (widW ld th hd ot0 ot1 oh0 oh1 st0 st1 sp0 sp1 yi0 yi1) (ws.take (i + 1)) 0) 0).toArray (selP (fineW ld th hd ot0 ot1 oh0 oh1 st0 st1 sp0 sp1 yi0 yi1 w0 w1) (widW ld th hd ot0 ot1 oh0 oh1 st0 st1 sp0 sp1 yi0 yi1) (ws.take (i + 1)) 0).length := by
        rw [hsel, mkEs_snoc, List.length_append, Nat.zero_add]; rfl
      have hkk : blk u6 ≠ some gm := fun e => am.1 (by rw [bA] at e; exact Option.some.inj e)
      have hfr : h0.own gA = none := by
        rcases hA with e | ⟨e, _⟩
        · exact fa8.out gA e
        · simp only [own_none_iff] at e
          exact fa1.out.none e.2.2.2.2.2.2
      refine LoopK.intro (k - 1) (by omega) ⟨i + 1, u6, ⟨by omega⟩, ⟨?_⟩, (by simp -implicitDefEqProofs (maxSteps := 1000000) only [go_sem, seval, *]), (by simp -implicitDefEqProofs (maxSteps := 1000000) only [go_sem, seval, *]), (by simp -implicitDefEqProofs (maxSteps := 1000000) only [go_sem, seval, *]), (by rw [Hp.own_set, if_pos rfl, hobj]), ?_, ⟨?_⟩, ⟨?_⟩, (by kernel_rfl)⟩
      · exact ((((fa1.out.set (fa1.out.none hn13)).set (fa1.out.none hn14.2.2)).set (fa1.out.none hn.2.2.2.2)).set hfr).set (fa7.out gm (by simp)).2
      · rw [hsel, List.length_append, List.map_append]
        show Own F _ _ 1 _ _ (ints (_ ++ [(i : Int)]))
        rw [ints_snoc]
        exact r6.other hkk
      · rintro x hx
        refine ⟨?_, (fa7.out x hx).2⟩
        rw [bA]
        rintro e
        cases e
        rcases hx with rfl | rfl | rfl | rfl <;> simp_all
      · intro x hx
        rw [bA] at hx
        cases hx
        exact hfr
    · rename_i g13 hg13 hn13
      have hf : fineW ld th hd ot0 ot1 oh0 oh1 st0 st1 sp0 sp1 yi0 yi1 w0 w1 w = false := by simp only [fineW, allI_cons, allI_nil, Bool.and_true]; exact hc
      have hsel : selP (fineW ld th hd ot0 ot1 oh0 oh1 st0 st1 sp0 sp1 yi0 yi1 w0 w1) (widW ld th hd ot0 ot1 oh0 oh1 st0 st1 sp0 sp1 yi0 yi1) (ws.take (i + 1)) 0 = selP (fineW ld th hd ot0 ot1 oh0 oh1 st0 st1 sp0 sp1 yi0 yi1 w0 w1) (widW ld th hd ot0 ot1 oh0 oh1 st0 st1 sp0 sp1 yi0 yi1) (ws.take i) 0 := by
        rw [htk, selP_snoc, if_neg (by rw [hf]; decide), List.append_nil]
      have p0 := fa0.out
      refine LoopK.intro (k - 1) (by omega) ⟨i + 1, v6, ⟨by omega⟩, ⟨(fa1.out.set (fa1.out.none hn13)).set (fa1.out.none hn.2.2)⟩, (by simp -implicitDefEqProofs (maxSteps := 1000000) only [go_sem, seval, *]), (by simp -implicitDefEqProofs (maxSteps := 1000000) only [go_sem, seval, *]), (by simp -implicitDefEqProofs (maxSteps := 1000000) only [go_sem, seval, *]), (by rw [hsel]; simp -implicitDefEqProofs (maxSteps := 1000000) only [go_sem, seval, *]), (by rw [hsel]; exact (fa6.other (p6 g13 hn13)).other (p6 g hn.2.2)), fa7, fa8, (by kernel_rfl)⟩
  · have hge : n ≤ i := by simpa using hc
    have p0 := fa0.out
    have hti : ws.take i = ws := List.take_of_length_le (by omega)
    rw [hti] at fa5 fa6
    have hg11 : F.w0.heap.size ≤ g11 := hg
    have hsl := selP_look (fineW ld th hd ot0 ot1 oh0 oh1 st0 st1 sp0 sp1 yi0 yi1 w0 w1) (widW ld th hd ot0 ot1 oh0 oh1 st0 st1 sp0 sp1 yi0 yi1) ws 0
    have hlen3 := selP_len (fineW ld th hd ot0 ot1 oh0 oh1 st0 st1 sp0 sp1 yi0 yi1 w0 w1) (widW ld th hd ot0 ot1 oh0 oh1 st0 st1 sp0 sp1 yi0 yi1) ws 0
    have hP19 : (selP (fineW ld th hd ot0 ot1 oh0 oh1 st0 st1 sp0 sp1 yi0 yi1 w0 w1) (widW ld th hd ot0 ot1 oh0 oh1 st0 st1 sp0 sp1 yi0 yi1) ws 0).length ≤ 19 := by have := hn19.out; omega
    have hbd : ∀ w ∈ (selP (fineW ld th hd ot0 ot1 oh0 oh1 st0 st1 sp0 sp1 yi0 yi1 w0 w1) (widW ld th hd ot0 ot1 oh0 oh1 st0 st1 sp0 sp1 yi0 yi1) ws 0).map (·.2), -100000000000000 ≤ w ∧ w ≤ 100000000000000 := by
      intro w hwm
      obtain ⟨q, hq, rfl⟩ := List.mem_map.1 hwm
      obtain ⟨y, hy, e⟩ := selP_val _ _ _ _ _ hq
      have := force_bd (k := y.k) (t0 := y.t0) (t1 := y.t1) (a0 := y.a0) (a1 := y.a1) (s0 := y.s0) (s1 := y.s1) hv.out (hw.out y hy)
      rw [e]
      unfold widW
      omega
    have hh := hs.out
    have k0 := k0'.out
    have k1 := k1'.out
    generalize hP : selP (fineW ld th hd ot0 ot1 oh0 oh1 st0 st1 sp0 sp1 yi0 yi1 w0 w1) (widW ld th hd ot0 ot1 oh0 oh1 st0 st1 sp0 sp1 yi0 yi1) ws 0 = P at *
    clear hP hs k0' k1' hlen3
    simp -implicitDefEqProofs (maxSteps := 1000000) only [go_sem, seval, *]
    refine sortS F _ _ v6 P.length (P.map (·.1)) g11 gm P.length P (P.map (·.2)) hP19 fa6 (by simp) hg11 fa4 fa5 ?_ hh hbd ?_
    · intro j x w h1 h2
      simp only [List.getElem?_map, Option.map_eq_some_iff] at h1 h2
      obtain ⟨q, h1, rfl⟩ := h1
      obtain ⟨q', h2, rfl⟩ := h2
      rw [h1] at h2
      cases h2
      exact hsl j q h1
    have kk := fa1.out
    obtain ⟨p, cap, e6⟩ := fa6.len
    by_cases hP0 : P = []
    · subst hP0
      subst e6
      have k0 := k0 rfl
      clear k1
      simp -implicitDefEqProofs (maxSteps := 1000000) only [go_sem, seval, *]
    · have k1 := fun v' h' a a' b => k1 hP0 v' h' a a' b
      have x5 : (((P.length : Nat) : Int) == 0) = false := by
        simp only [beq_eq_false_iff_ne]
        intro e
        exact hP0 (List.eq_nil_of_length_eq_zero (by omega))
      have k2 := k1 v6 h kk fa8.out fa6
      rw [e6] at k2 ⊢
      clear k0 k1 fa6
      simp -implicitDefEqProofs (maxSteps := 1000000) only [go_sem, seval, *]
theorem DCall.weaken {P : Program} {F : Fr} {f : FuncId} {args : Array Value} {h : Hp} {K : Value → Hp → Prop} (hd : DCall P F f args h (fun v h' => ∃ h2, keepH h2 h' ∧ K v h2)) : DCall P F f args h K := by
  refine ⟨fun w r => ?_⟩
  refine (hd.out w r).mono fun e w' ⟨v, h', he, ⟨h2, hk, hv⟩, r'⟩ => ⟨v, h2, he, hv, ?_⟩
  exact ⟨fun g o e => r'.own g o (hk g o e), r'.size, r'.os, r'.tape, r'.output, r'.frame, fun g o e => r'.mine g o (hk g o e)⟩
/-- The same, of what was owned and the block of the result alone. -/
theorem bestR (F : Fr) (h : Hp) (K : Value → Hp → Prop) (ld th hd ot0 ot1 oh0 oh1 st0 st1 sp0 sp1 yi0 yi1 w0 w1 : Int) (ws : List Way) (n b off c : Nat) (hn19 : Hold (n ≤ 19)) (hr : Hold (readV (h.cell? F) b off (n * 7) = some (ws.flatMap Way.cs))) (hv : BoltOk ld th hd ot0 ot1 oh0 oh1 st0 st1 sp0 sp1 yi0 yi1) (hw : Hold (∀ w ∈ ws, w.ok = true)) (hwn : spB 0 100000000 w0 w1 = true)
    (hs : Hold (∀ (i : Nat) x y, ((selP (fineW ld th hd ot0 ot1 oh0 oh1 st0 st1 sp0 sp1 yi0 yi1 w0 w1) (widW ld th hd ot0 ot1 oh0 oh1 st0 st1 sp0 sp1 yi0 yi1) ws 0).map (·.2))[i]? = some x → ((selP (fineW ld th hd ot0 ot1 oh0 oh1 st0 st1 sp0 sp1 yi0 yi1 w0 w1) (widW ld th hd ot0 ot1 oh0 oh1 st0 st1 sp0 sp1 yi0 yi1) ws 0).map (·.2))[i + 1]? = some y → x ≤ y))
    (k0 : selP (fineW ld th hd ot0 ot1 oh0 oh1 st0 st1 sp0 sp1 yi0 yi1 w0 w1) (widW ld th hd ot0 ot1 oh0 oh1 st0 st1 sp0 sp1 yi0 yi1) ws 0 = [] → K (.tuple #[.slice none 0 0, .int .i64 7]) h)
    (k1 : selP (fineW ld th hd ot0 ot1 oh0 oh1 st0 st1 sp0 sp1 yi0 yi1 w0 w1) (widW ld th hd ot0 ot1 oh0 oh1 st0 st1 sp0 sp1 yi0 yi1) ws 0 ≠ [] → ∀ g cap tl, F.w0.heap.size ≤ g → h.own g = none → K (.tuple #[.slice (some ⟨g, 0, none⟩) (selP (fineW ld th hd ot0 ot1 oh0 oh1 st0 st1 sp0 sp1 yi0 yi1 w0 w1) (widW ld th hd ot0 ot1 oh0 oh1 st0 st1 sp0 sp1 yi0 yi1) ws 0).length cap, .int .i64 0]) (h.set g (.cells (ints ((selP (fineW ld th hd ot0 ot1 oh0 oh1 st0 st1 sp0 sp1 yi0 yi1 w0 w1) (widW ld th hd ot0 ot1 oh0 oh1 st0 st1 sp0 sp1 yi0 yi1) ws 0).map (·.1)) ++ tl).toArray 3 (0, 0)))) :
    DCall Try.prog F 29 #[.agg #[.int .i64 ld, .int .i64 th, .int .i64 hd, .int .i64 ot0, .int .i64 ot1, .int .i64 oh0, .int .i64 oh1, .int .i64 st0, .int .i64 st1, .int .i64 sp0, .int .i64 sp1, .int .i64 yi0, .int .i64 yi1], .slice (some ⟨b, off, none⟩) n c, .agg #[.int .i64 w0, .int .i64 w1]] h K := by
  refine DCall.weaken (bestD F h _ ld th hd ot0 ot1 oh0 oh1 st0 st1 sp0 sp1 yi0 yi1 w0 w1 ws n b off c hn19 hr hv hw hwn hs (fun e h' hk => ⟨h, hk, k0 e⟩) (fun e v' h' hk hx ho => ?_))
  rcases ho.2 with ⟨_, h0⟩ | ⟨g, cap, tl, rfl, hg, og, _, _⟩
  · exact absurd (List.eq_nil_of_length_eq_zero h0) e
  · refine ⟨h.set g (.cells (ints ((selP (fineW ld th hd ot0 ot1 oh0 oh1 st0 st1 sp0 sp1 yi0 yi1 w0 w1) (widW ld th hd ot0 ot1 oh0 oh1 st0 st1 sp0 sp1 yi0 yi1) ws 0).map (·.1)) ++ tl).toArray 3 (0, 0)), fun b o hb => ?_, k1 e g cap tl hg (hx g rfl)⟩
    rw [Hp.own_set] at hb
    split at hb
    · rename_i hbg; subst hbg; cases hb; exact og
    · exact hk b o hb

end Go.Proofs.Ytdhhaglaikdpbaa
