/-
  Walks. Conditions: none.
-/
import Derived.Test.YtdhdfdaclbfkiaaPa
set_option linter.unusedVariables false
set_option linter.unusedSimpArgs false
namespace Go.Proofs.Ytdhdfdaclbfkiaa
open Go.RowKit Go.SL
set_option maxHeartbeats 1000000
set_option maxRecDepth 1000000
theorem within1_ok (ro : Addr → Option Value) (lo hi x : Int) (b1 b2 : Nat) (h1 : ro ⟨b1, 0, none⟩ = some (.int .i64 lo)) (h2 : ro ⟨b2, 0, none⟩ = some (.int .i64 hi)) :
    Cr Try.prog 105 #[.int .i64 x, .pointer (some ⟨b1, 0, none⟩), .pointer (some ⟨b2, 0, none⟩)] ro (.bool (decide (x < lo) || decide (hi < x))) := by
  subst_vars
  (refine Cr.of Try.func105 rfl rfl (fun F hF => ?_); simp only [Try.ntmps105, Try.results105, List.size_toArray, List.length_cons, List.length_nil, Nat.reduceAdd, Nat.reduceSub, Array.replicate_succ, Array.replicate_zero, List.push_toArray, List.append_toArray, List.nil_append, List.cons_append]; simp -implicitDefEqProofs (maxSteps := 1000000) only [go_sem, seval])
  subst hF
  simp -implicitDefEqProofs (maxSteps := 1000000) only [go_sem, seval, *]
  repeat' (first | ((first | ((with_reducible refine NewK.intro fun g hg hn => ?_) <;> try simp only [own_none_iff] at hn) | ((with_reducible refine GuardB.split (fun hc => ?_) (fun hc => ?_)) <;> (have hc2 := hc; try simp only [beq_eq_false_iff_ne, beq_iff_eq, ne_eq, bne_iff_ne, bne_eq_false_iff_eq, decide_eq_true_eq, decide_eq_false_iff_not, Bool.not_true, Bool.not_false, Int.not_le, Int.not_lt] at hc2)) | ((with_reducible refine CondK.split (fun hc => ?_) (fun hc => ?_)) <;> (have hc2 := hc; try simp only [beq_eq_false_iff_ne, beq_iff_eq, ne_eq, bne_iff_ne, bne_eq_false_iff_eq, decide_eq_true_eq, decide_eq_false_iff_not, Bool.not_true, Bool.not_false, Int.not_le, Int.not_lt] at hc2)) | ((with_reducible refine PickK.split (fun hc => ?_) (fun hc => ?_)) <;> (have hc2 := hc; try simp only [beq_eq_false_iff_ne, beq_iff_eq, ne_eq, bne_iff_ne, bne_eq_false_iff_eq, decide_eq_true_eq, decide_eq_false_iff_not, Bool.not_true, Bool.not_false, Int.not_le, Int.not_lt] at hc2)) | (with_reducible refine dop_buildSlice ?_) | (with_reducible refine dop_build ?_) | ((with_reducible refine GuardD.split (fun hc => ?_) (fun hc => ?_)) <;> (have hc2 := hc; try simp only [beq_eq_false_iff_ne, beq_iff_eq, ne_eq, bne_iff_ne, bne_eq_false_iff_eq, decide_eq_true_eq, decide_eq_false_iff_not, Bool.not_true, Bool.not_false, Int.not_le, Int.not_lt] at hc2)) | (with_reducible refine stp_build ?_) | (with_reducible refine stp_buildSlice ?_) | (with_reducible refine stp_store ?_) | (with_reducible refine stp_ns ?_) | (with_reducible refine NsB.intro (fun h' ho K' hk => by simp -implicitDefEqProofs (maxSteps := 1000000) only [go_sem, seval, *] <;> exact hk) ?_) | (with_reducible refine WrB.intro _ (by simp -implicitDefEqProofs (maxSteps := 1000000) only [go_sem, seval, *]) (fun h' ho K' hk => by simp -implicitDefEqProofs (maxSteps := 1000000) only [go_sem, seval, *]; exact hk) (fun h' ho K' hk => by simp -implicitDefEqProofs (maxSteps := 1000000) only [go_sem, seval, *] at hk; exact hk) (fun h' ho hk => by simp -implicitDefEqProofs (maxSteps := 1000000) only [go_sem, seval, *] at hk <;> with_unfolding_all exact False.elim hk) ?_) | (with_reducible refine WrB.intro _ (by simp -implicitDefEqProofs (maxSteps := 1000000) only [go_sem, seval, *]) (fun h' ho K' hk => by simp -implicitDefEqProofs (maxSteps := 1000000) only [go_sem, seval, *]; exact hk) ?_) | ((with_reducible refine DDraw.auto mo ?_ ?_); kernel_rfl)) <;> simp -implicitDefEqProofs (maxSteps := 1000000) only [go_sem, seval, *]) | (with_reducible refine bi_same ?_))
  all_goals simp
def IFI (n b off c f : Nat) (cap : Array Value) (p : Int → Bool) (xs : List Int) (k : Nat) (a : Act) (h : Hp) : Prop :=
  ∃ (i : Nat) (x2 x3 x5 x9 x10 x11 x12 x13 x14 x15 x16 x17 x18 : Value), Hold (i + k = n) ∧ h = Hp.none_ ∧ Hold (idxI p xs 0 = idxI p (xs.drop i) i) ∧ a = ⟨#[.slice (some ⟨b, off, none⟩) n c, .func (.func f) #[] cap, x2, x3, .int .i64 0, x5, .slice (some ⟨b, off, none⟩) n c, .int .i64 n, .int .i64 i, x9, x10, x11, x12, x13, x14, x15, x16, x17, x18], []⟩
theorem indexFunc_ok (ro : Addr → Option Value) (b off n c f : Nat) (cap : Array Value) (p : Int → Bool) (xs : List Int) (hx : Hold (readI ro b off n = some xs)) (hn : Hold (n < 2 ^ 63)) (hent : entB Try.prog f = true)
    (hp : ∀ x, Cr Try.prog f (#[.int .i64 x] ++ cap) ro (.bool (p x))) :
    Cr Try.prog 136 #[.slice (some ⟨b, off, none⟩) n c, .func (.func f) #[] cap] ro (.int .i64 (idxI p xs 0)) := by
  (refine Cr.of Try.func136 rfl rfl (fun F hF => ?_); simp only [Try.ntmps136, Try.results136, List.size_toArray, List.length_cons, List.length_nil, Nat.reduceAdd, Nat.reduceSub, Array.replicate_succ, Array.replicate_zero, List.push_toArray, List.append_toArray, List.nil_append, List.cons_append]; simp -implicitDefEqProofs (maxSteps := 1000000) only [go_sem, seval])
  subst hF
  refine DLoop.ind (IFI n b off c f cap p xs) n ⟨0, _, _, _, _, _, _, _, _, _, _, _, _, _, ⟨by omega⟩, rfl, ⟨by simp⟩, rfl⟩ ?_
  rintro k a h ⟨i, x2, x3, x5, x9, x10, x11, x12, x13, x14, x15, x16, x17, x18, hk, rfl, hI, rfl⟩
  simp -implicitDefEqProofs (maxSteps := 1000000) only [go_sem, seval, *]
  refine CondK.split (fun hc => ?_) (fun hc => ?_)
  · have hlt : i < n := by simpa using hc
    have h0 : (0 : Int) ≤ (i : Int) := by omega
    have h1 : (i : Int) < (n : Int) := by omega
    have hxl := readI_len hx.out
    have hxi : xs[i]? = some xs[i] := List.getElem?_eq_getElem (by omega)
    have hro := readI_get hx.out i _ hxi
    have hp' : Cr Try.prog f (#[] ++ #[.int .i64 xs[i]] ++ cap) (Hp.none_.cell? F) (.bool (p xs[i])) := by
      have := (hp xs[i]).mono (ro' := Hp.none_.cell? F) (fun a u e => Hp.cell_ro e)
      simpa using this
    have hd : xs.drop i = xs[i] :: xs.drop (i + 1) := List.drop_eq_getElem_cons (by omega)
    have hI' := hI.out
    rw [hd, idxI] at hI'
    generalize hxv : xs[i] = x at *
    simp -implicitDefEqProofs (maxSteps := 1000000) only [go_sem, seval, hc, h0, h1, hro]
    rw [dwp_callFunc hent]
    simp -implicitDefEqProofs (maxSteps := 1000000) only [go_sem, seval]
    refine Cr.call hp' ?_
    simp -implicitDefEqProofs (maxSteps := 1000000) only [go_sem, seval]
    refine CondK.split (fun hc => ?_) (fun hc => ?_)
    · rw [if_pos hc] at hI'
      simp -implicitDefEqProofs (maxSteps := 1000000) only [go_sem, seval]
      rw [hI']
    · rw [if_neg (by simp [hc])] at hI'
      simp -implicitDefEqProofs (maxSteps := 1000000) only [go_sem, seval]
      have hw : IntKind.i64.wrap ((i : Int) + 1) = ((i + 1 : Nat) : Int) := by
        have := hn.out
        rw [IntWalk.i64_in _ (by omega)]; push_cast; rfl
      have hk' := hk.out
      rw [hw]
      exact LoopK.intro (k - 1) (by omega) ⟨i + 1, _, _, _, _, _, _, _, _, _, _, _, _, _, ⟨by omega⟩, rfl, ⟨by rw [hI']; push_cast; rfl⟩, rfl⟩
  · have hge : n ≤ i := by simpa using hc
    have hxl := readI_len hx.out
    have hI' := hI.out
    rw [List.drop_eq_nil_of_le (by omega), idxI] at hI'
    simp -implicitDefEqProofs (maxSteps := 1000000) only [go_sem, seval, hc]
    rw [hI']

theorem containsFunc_ok (ro : Addr → Option Value) (b off n c f : Nat) (cap : Array Value) (p : Int → Bool) (xs : List Int) (hx : Hold (readI ro b off n = some xs)) (hn : Hold (n < 2 ^ 63)) (hent : entB Try.prog f = true)
    (hp : ∀ x, Cr Try.prog f (#[.int .i64 x] ++ cap) ro (.bool (p x))) :
    Cr Try.prog 104 #[.slice (some ⟨b, off, none⟩) n c, .func (.func f) #[] cap] ro (.bool (xs.any p)) := by
  (refine Cr.of Try.func104 rfl rfl (fun F hF => ?_); simp only [Try.ntmps104, Try.results104, List.size_toArray, List.length_cons, List.length_nil, Nat.reduceAdd, Nat.reduceSub, Array.replicate_succ, Array.replicate_zero, List.push_toArray, List.append_toArray, List.nil_append, List.cons_append]; simp -implicitDefEqProofs (maxSteps := 1000000) only [go_sem, seval])
  subst hF
  refine Cr.call (indexFunc_ok _ b off n c f cap p xs ⟨?_⟩ hn hent ?_) ?_
  · exact readI_mono (fun a u e => Hp.cell_ro e) hx.out
  · intro x; exact (hp x).mono (fun a u e => Hp.cell_ro e)
  · simp -implicitDefEqProofs (maxSteps := 1000000) only [go_sem, seval]
    rw [← idxI_ge p xs 0 (by omega)]

theorem within_ok (ro : Addr → Option Value) (lo hi : Int) (b off n c : Nat) (hs : (readI ro b off n).isSome = true) (hn : Hold (n < 2 ^ 63)) :
    Cr Try.prog 60 #[.int .i64 lo, .int .i64 hi, .slice (some ⟨b, off, none⟩) n c] ro (.bool (allO lo hi (readI ro b off n))) := by
  obtain ⟨xs, hx⟩ := Option.isSome_iff_exists.1 hs
  rw [hx, allO_some, ← allI_any]
  (refine Cr.of Try.func60 rfl rfl (fun F hF => ?_); simp only [Try.ntmps60, Try.results60, List.size_toArray, List.length_cons, List.length_nil, Nat.reduceAdd, Nat.reduceSub, Array.replicate_succ, Array.replicate_zero, List.push_toArray, List.append_toArray, List.nil_append, List.cons_append]; simp -implicitDefEqProofs (maxSteps := 1000000) only [go_sem, seval])
  subst hF
  refine NewK.intro fun g1 hg1 hn1 => ?_
  simp -implicitDefEqProofs (maxSteps := 1000000) only [go_sem, seval]
  refine NewK.intro fun g2 hg2 hn2 => ?_
  obtain ⟨hne1, hne2, hn3⟩ := own_set_none hn2
  simp -implicitDefEqProofs (maxSteps := 1000000) only [go_sem, seval]
  refine Cr.call (containsFunc_ok _ b off n c 105 _ (fun x => decide (x < lo) || decide (hi < x)) xs ⟨readI_mono (fun a u e => Hp.cell_ro e) hx⟩ hn (by unfold entB; rw [Try.func105]; rfl) (fun x => within1_ok _ lo hi x g1 g2 ?_ ?_)) ?_
  · simp -implicitDefEqProofs (maxSteps := 1000000) only [go_sem, seval, *]
  · simp -implicitDefEqProofs (maxSteps := 1000000) only [go_sem, seval, *]
  · simp -implicitDefEqProofs (maxSteps := 1000000) only [go_sem, seval, *]

end Go.Proofs.Ytdhdfdaclbfkiaa
