/-
  Walks. Conditions: none.
-/
import Derived.Test.YtdhhaglaikdpbaaB27
set_option linter.unusedVariables false
set_option linter.unusedSimpArgs false
namespace Go.Proofs.Ytdhhaglaikdpbaa
open Go.RowKit Go.SL
set_option maxHeartbeats 1000000
set_option maxRecDepth 1000000
attribute [local go_sem] i64w
attribute [local go_sem] dwp_eqGuardE dwp_eqGuardN rval_eqGuardE rval_eqGuardN
theorem best1 (F : Fr) (h : Hp) (K : Value → Hp → Prop) (a b wa wb : Int) (gB gm c : Nat) (ml : List (Int × Int)) (hg : F.w0.heap.size ≤ gB) (o1 : h.own gB = some (.cells #[.map (some gm)] 114)) (o2 : h.own gm = some (.map (mkEs ml 0).toArray c))
    (l1 : lookL ml a = some wa) (l2 : lookL ml b = some wb) (b1 : -100000000000000 ≤ wa ∧ wa ≤ 100000000000000) (b2 : -100000000000000 ≤ wb ∧ wb ≤ 100000000000000) (hk : K (.int .i64 (wa - wb)) h) :
    DCall Try.prog F 61 #[.int .i64 a, .int .i64 b, .pointer (some ⟨gB, 0, none⟩)] h K := by
  have e1 : IntKind.i64.wrap (wa - wb) = wa - wb := IntWalk.i64_in _ (by omega)
  have k1 : ∀ K : Value → Hp → Prop, dwp Try.prog F (Instr.lookup 114 (.map (some gm)) (.int .i64 a) false) h K = K (.int .i64 wa) h := fun K => dwp_lookupI Try.underlying114 Try.underlying3 o2 l1
  have k2 : ∀ K : Value → Hp → Prop, dwp Try.prog F (Instr.lookup 114 (.map (some gm)) (.int .i64 b) false) h K = K (.int .i64 wb) h := fun K => dwp_lookupI Try.underlying114 Try.underlying3 o2 l2
  (refine DCall.inl Try.func61 rfl rfl ?_; simp only [Try.ntmps61, Try.results61, List.size_toArray, List.length_cons, List.length_nil, Nat.reduceAdd, Nat.reduceSub, Array.replicate_succ, Array.replicate_zero, List.push_toArray, List.append_toArray, List.nil_append, List.cons_append]; simp -implicitDefEqProofs (maxSteps := 1000000) only [go_sem, seval])
  simp -implicitDefEqProofs (maxSteps := 1000000) only [go_sem, seval, *]
def ISort (n cap gd gB : Nat) (h0 : Hp) (k : Nat) (a : Act) (h : Hp) : Prop :=
  ∃ (i : Nat), Hold (i + k = n) ∧ Hold (1 ≤ i) ∧ h = h0 ∧ a = (fun x : Nat → Value => (⟨#[.slice (some ⟨gd, 0, none⟩) n cap, .int .i64 0, .int .i64 n, .func (.func 61) #[] #[.pointer (some ⟨gB, 0, none⟩)], x 4, x 5, x 6, x 7, .int .i64 i, x 9, x 10, x 11, x 12, x 13, x 14, x 15, x 16, x 17, x 18, x 19, x 20, x 21, x 22, x 23, x 24, x 25, x 26, x 27, x 28, x 29, x 30, x 31, x 32, x 33, x 34, x 35, x 36, x 37, x 38, x 39, x 40, x 41, x 42, x 43, x 44, x 45, x 46, x 47, x 48, x 49, x 50, x 51, x 52], []⟩ : Act)) (fun i => a.tmps.getD i undef)
set_option maxHeartbeats 8000000 in
/-- Sorting what is sorted. -/
theorem isort (F : Fr) (h : Hp) (K : Value → Hp → Prop) (gd cap n : Nat) (xs : List Int) (tl : List Value) (gB gm c : Nat) (ml : List (Int × Int)) (W : List Int) (hn : Hold (0 < n ∧ n ≤ 1000)) (hlen : xs.length = n) (hwl : W.length = n)
    (hgd : F.w0.heap.size ≤ gd) (od : h.own gd = some (.cells (ints xs ++ tl).toArray 3 (0, 0))) (hg : F.w0.heap.size ≤ gB) (o1 : h.own gB = some (.cells #[.map (some gm)] 114)) (o2 : h.own gm = some (.map (mkEs ml 0).toArray c))
    (hl : ∀ (i : Nat) x w, xs[i]? = some x → W[i]? = some w → lookL ml x = some w) (hs : ∀ (i : Nat) w w', W[i]? = some w → W[i + 1]? = some w' → w ≤ w') (hb : ∀ w ∈ W, -100000000000000 ≤ w ∧ w ≤ 100000000000000) (hk : K (.tuple #[]) h) :
    DCall Try.prog F 86 #[.slice (some ⟨gd, 0, none⟩) n cap, .int .i64 0, .int .i64 n, .func (.func 61) #[] #[.pointer (some ⟨gB, 0, none⟩)]] h K := by
  have hnn := hn.out
  (refine DCall.inl Try.func86 rfl rfl ?_; simp only [Try.ntmps86, Try.results86, List.size_toArray, List.length_cons, List.length_nil, Nat.reduceAdd, Nat.reduceSub, Array.replicate_succ, Array.replicate_zero, List.push_toArray, List.append_toArray, List.nil_append, List.cons_append]; simp -implicitDefEqProofs (maxSteps := 1000000) only [go_sem, seval])
  refine DLoop.ind (ISort n cap gd gB h) (n - 1) ⟨1, ⟨by omega⟩, ⟨by omega⟩, rfl, (by kernel_rfl)⟩ ?_
  (rintro k a h ⟨i, fa0, fa1, rfl, ha⟩; generalize (fun i => Array.getD a.tmps i undef) = x at ha; dsimp only at ha; subst ha)
  simp -implicitDefEqProofs (maxSteps := 1000000) only [go_sem, seval, *]
  refine CondK.split (fun hc => ?_) (fun hc => ?_)
  · have hlt : i < n := by simpa using hc
    have f0' := fa0.out
    have f1' := fa1.out
    have hx0 : xs[i]? = some xs[i] := List.getElem?_eq_getElem (by omega)
    have hx1 : xs[i - 1]? = some xs[i - 1] := List.getElem?_eq_getElem (by omega)
    have hw0 : W[i]? = some W[i] := List.getElem?_eq_getElem (by omega)
    have hw1 : W[i - 1]? = some W[i - 1] := List.getElem?_eq_getElem (by omega)
    have l0 := hl i _ _ hx0 hw0
    have l1 := hl (i - 1) _ _ hx1 hw1
    have hle := hs (i - 1) _ _ hw1 (by rw [show i - 1 + 1 = i by omega]; exact hw0)
    have b0 := hb _ (List.getElem_mem (l := W) (n := i) (by omega))
    have b1 := hb _ (List.getElem_mem (l := W) (n := i - 1) (by omega))
    have g0 : (ints xs ++ tl)[i]? = some (.int .i64 xs[i]) := by
      rw [List.getElem?_append_left (by rw [ints_len]; omega)]
      simp only [ints, List.getElem?_map, hx0]; rfl
    have g1 : (ints xs ++ tl)[((i : Int) - 1).toNat]? = some (.int .i64 xs[i - 1]) := by
      rw [show ((i : Int) - 1).toNat = i - 1 by omega, List.getElem?_append_left (by rw [ints_len]; omega)]
      simp only [ints, List.getElem?_map, hx1]; rfl
    generalize xs[i] = y0 at *
    generalize xs[i - 1] = y1 at *
    generalize W[i] = w0 at *
    generalize W[i - 1] = w1 at *
    have i0 : (0 : Int) ≤ (i : Int) := by omega
    have i1 : (i : Int) < (n : Int) := by omega
    have i2 : (0 : Int) ≤ (i : Int) - 1 := by omega
    have i3 : (i : Int) - 1 < (n : Int) := by omega
    have i4 : IntKind.i64.wrap ((i : Int) - 1) = (i : Int) - 1 := IntWalk.i64_in _ (by omega)
    have i5 : decide ((i : Int) > 0) = true := by simp; omega
    have i7 : IntKind.i64.wrap ((i : Int) + 1) = ((i + 1 : Nat) : Int) := by rw [IntWalk.i64_in _ (by omega)]; push_cast; rfl
    have i6 : decide (w0 - w1 < 0) = false := by simp; omega
    generalize ints xs ++ tl = L at *
    clear hl hs hb
    refine DLoop.rounds 2 ?_
    simp -implicitDefEqProofs (maxSteps := 1000000) only [go_sem, seval, *]
    repeat' (first | ((first | ((with_reducible refine CallV.inl (.int .i64 (w0 - w1)) ni61 (fun h' keep K' hk' => best1 F h' K' y0 y1 w0 w1 gB gm c ml hg (keep _ _ ?_) (keep _ _ ?_) l0 l1 b0 b1 hk') ?_)) | ((with_reducible refine NewK.intro fun g hg hn => ?_) <;> try simp only [own_none_iff] at hn) | ((with_reducible refine GuardB.split (fun hc => ?_) (fun hc => ?_)) <;> (have hc2 := hc; try simp only [beq_eq_false_iff_ne, beq_iff_eq, ne_eq, bne_iff_ne, bne_eq_false_iff_eq, decide_eq_true_eq, decide_eq_false_iff_not, Bool.not_true, Bool.not_false, Int.not_le, Int.not_lt] at hc2)) | ((with_reducible refine CondK.split (fun hc => ?_) (fun hc => ?_)) <;> (have hc2 := hc; try simp only [beq_eq_false_iff_ne, beq_iff_eq, ne_eq, bne_iff_ne, bne_eq_false_iff_eq, decide_eq_true_eq, decide_eq_false_iff_not, Bool.not_true, Bool.not_false, Int.not_le, Int.not_lt] at hc2)) | ((with_reducible refine PickK.split (fun hc => ?_) (fun hc => ?_)) <;> (have hc2 := hc; try simp only [beq_eq_false_iff_ne, beq_iff_eq, ne_eq, bne_iff_ne, bne_eq_false_iff_eq, decide_eq_true_eq, decide_eq_false_iff_not, Bool.not_true, Bool.not_false, Int.not_le, Int.not_lt] at hc2)) | (with_reducible refine dop_buildSlice ?_) | (with_reducible refine dop_build ?_) | ((with_reducible refine DDraw.told (id := 6) [9, 13] [.tmp 0] mo ?_ ?_); kernel_rfl) | ((with_reducible refine GuardD.split (fun hc => ?_) (fun hc => ?_)) <;> (have hc2 := hc; try simp only [beq_eq_false_iff_ne, beq_iff_eq, ne_eq, bne_iff_ne, bne_eq_false_iff_eq, decide_eq_true_eq, decide_eq_false_iff_not, Bool.not_true, Bool.not_false, Int.not_le, Int.not_lt] at hc2)) | (with_reducible refine stp_build ?_) | (with_reducible refine stp_buildSlice ?_) | (with_reducible refine stp_store ?_) | (with_reducible refine stp_ns ?_) | (with_reducible refine NsB.intro (fun h' ho K' hk => by simp -implicitDefEqProofs (maxSteps := 1000000) only [go_sem, seval, *] <;> exact hk) ?_) | (with_reducible refine WrB.intro _ (by simp -implicitDefEqProofs (maxSteps := 1000000) only [go_sem, seval, *]) (fun h' ho K' hk => by simp -implicitDefEqProofs (maxSteps := 1000000) only [go_sem, seval, *]; exact hk) ?_) | ((with_reducible refine DDraw.auto mo ?_ ?_); kernel_rfl)) <;> simp -implicitDefEqProofs (maxSteps := 1000000) only [go_sem, seval, *]) | (with_reducible refine bi_same ?_))
    exact LoopK.intro (k - 1) (by omega) ⟨i + 1, ⟨by omega⟩, ⟨by omega⟩, rfl, (by kernel_rfl)⟩
  · simp -implicitDefEqProofs (maxSteps := 1000000) only [go_sem, seval, *]
theorem isort0 (F : Fr) (h : Hp) (K : Value → Hp → Prop) (v w : Value) (hk : K (.tuple #[]) h) : DCall Try.prog F 86 #[v, .int .i64 0, .int .i64 0, w] h K := by
  (refine DCall.inl Try.func86 rfl rfl ?_; simp only [Try.ntmps86, Try.results86, List.size_toArray, List.length_cons, List.length_nil, Nat.reduceAdd, Nat.reduceSub, Array.replicate_succ, Array.replicate_zero, List.push_toArray, List.append_toArray, List.nil_append, List.cons_append]; simp -implicitDefEqProofs (maxSteps := 1000000) only [go_sem, seval])
  refine DLoop.rounds 2 ?_
  simp -implicitDefEqProofs (maxSteps := 1000000) only [go_sem, seval, *]
/-- The same, through the calls around it; of at most 20. -/
theorem sortS (F : Fr) (h : Hp) (K : Value → Hp → Prop) (v : Value) (n : Nat) (xs : List Int) (gB gm c : Nat) (ml : List (Int × Int)) (W : List Int) (hn : n ≤ 19) (hv : Own F h 3 1 v n (ints xs)) (hwl : W.length = n)
    (hg : F.w0.heap.size ≤ gB) (o1 : h.own gB = some (.cells #[.map (some gm)] 114)) (o2 : h.own gm = some (.map (mkEs ml 0).toArray c))
    (hl : ∀ (i : Nat) x w, xs[i]? = some x → W[i]? = some w → lookL ml x = some w) (hs : ∀ (i : Nat) w w', W[i]? = some w → W[i + 1]? = some w' → w ≤ w') (hb : ∀ w ∈ W, -100000000000000 ≤ w ∧ w ≤ 100000000000000) (hk : K (.tuple #[]) h) :
    DCall Try.prog F 60 #[v, .func (.func 61) #[] #[.pointer (some ⟨gB, 0, none⟩)]] h K := by
  have hlen : xs.length = n := by have := hv.1; rw [ints_len] at this; omega
  have c1 : decide ((20 : Int) ≤ (n : Int)) = false := by simp; omega
  have c2 : decide ((20 : Int) < (n : Int)) = false := by simp; omega
  rcases hv.2 with ⟨rfl, rfl⟩ | ⟨gd, cap, tl, rfl, hgd, od, _, _⟩
  · (refine DCall.inl Try.func60 rfl rfl ?_; simp only [Try.ntmps60, Try.results60, List.size_toArray, List.length_cons, List.length_nil, Nat.reduceAdd, Nat.reduceSub, Array.replicate_succ, Array.replicate_zero, List.push_toArray, List.append_toArray, List.nil_append, List.cons_append]; simp -implicitDefEqProofs (maxSteps := 1000000) only [go_sem, seval])
    (refine DCall.inl Try.func82 rfl rfl ?_; simp only [Try.ntmps82, Try.results82, List.size_toArray, List.length_cons, List.length_nil, Nat.reduceAdd, Nat.reduceSub, Array.replicate_succ, Array.replicate_zero, List.push_toArray, List.append_toArray, List.nil_append, List.cons_append]; simp -implicitDefEqProofs (maxSteps := 1000000) only [go_sem, seval])
    refine DLoop.rounds 2 ?_
    simp -implicitDefEqProofs (maxSteps := 1000000) only [go_sem, seval, *]
    refine isort0 F h _ _ _ ?_
    simp -implicitDefEqProofs (maxSteps := 1000000) only [go_sem, seval, *]
    refine DLoop.rounds 2 ?_
    simp -implicitDefEqProofs (maxSteps := 1000000) only [go_sem, seval, *]
  · have hnn : Hold (n = 0 ∨ (0 < n ∧ n ≤ 1000)) := ⟨by omega⟩
    clear hv
    (refine DCall.inl Try.func60 rfl rfl ?_; simp only [Try.ntmps60, Try.results60, List.size_toArray, List.length_cons, List.length_nil, Nat.reduceAdd, Nat.reduceSub, Array.replicate_succ, Array.replicate_zero, List.push_toArray, List.append_toArray, List.nil_append, List.cons_append]; simp -implicitDefEqProofs (maxSteps := 1000000) only [go_sem, seval])
    (refine DCall.inl Try.func82 rfl rfl ?_; simp only [Try.ntmps82, Try.results82, List.size_toArray, List.length_cons, List.length_nil, Nat.reduceAdd, Nat.reduceSub, Array.replicate_succ, Array.replicate_zero, List.push_toArray, List.append_toArray, List.nil_append, List.cons_append]; simp -implicitDefEqProofs (maxSteps := 1000000) only [go_sem, seval])
    refine DLoop.rounds 2 ?_
    simp -implicitDefEqProofs (maxSteps := 1000000) only [go_sem, seval, *]
    rcases hnn.out with rfl | hp
    · refine isort0 F h _ _ _ ?_
      simp -implicitDefEqProofs (maxSteps := 1000000) only [go_sem, seval, *]
      refine DLoop.rounds 2 ?_
      simp -implicitDefEqProofs (maxSteps := 1000000) only [go_sem, seval, *]
    · refine isort F h _ gd cap n xs tl gB gm c ml W ⟨hp⟩ hlen hwl hgd od hg o1 o2 hl hs hb ?_
      simp -implicitDefEqProofs (maxSteps := 1000000) only [go_sem, seval, *]
      refine DLoop.rounds 2 ?_
      simp -implicitDefEqProofs (maxSteps := 1000000) only [go_sem, seval, *]

end Go.Proofs.Ytdhhaglaikdpbaa
