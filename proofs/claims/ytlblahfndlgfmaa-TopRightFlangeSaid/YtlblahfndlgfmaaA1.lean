/-
  Walks. Conditions: none.
-/
import Derived.Test.YtlblahfndlgfmaaPa
set_option linter.unusedVariables false
set_option linter.unusedSimpArgs false
namespace Go.Proofs.Ytlblahfndlgfmaa
open Go.RowKit Go.SL
set_option maxHeartbeats 1000000
set_option maxRecDepth 1000000
def IFI (n b off c f : Nat) (cap : Array Value) (p : Int → Bool) (xs : List Int) (k : Nat) (a : Act) (h : Hp) : Prop :=
  ∃ (i : Nat) (x2 x3 x5 x9 x10 x11 x12 x13 x14 x15 x16 x17 x18 : Value), Hold (i + k = n) ∧ h = Hp.none_ ∧ Hold (idxI p xs 0 = idxI p (xs.drop i) i) ∧ a = ⟨#[.slice (some ⟨b, off, none⟩) n c, .func (.func f) #[] cap, x2, x3, .int .i64 0, x5, .slice (some ⟨b, off, none⟩) n c, .int .i64 n, .int .i64 i, x9, x10, x11, x12, x13, x14, x15, x16, x17, x18], []⟩
theorem indexFunc_ok (ro : Addr → Option Value) (b off n c f : Nat) (cap : Array Value) (p : Int → Bool) (xs : List Int) (hx : Hold (readI ro b off n = some xs)) (hn : Hold (n < 2 ^ 63)) (hent : entB Try.prog f = true)
    (hp : ∀ x, Cr Try.prog f (#[.int .i64 x] ++ cap) ro (.bool (p x))) :
    Cr Try.prog 73 #[.slice (some ⟨b, off, none⟩) n c, .func (.func f) #[] cap] ro (.int .i64 (idxI p xs 0)) := by
  (refine Cr.of Try.func73 rfl rfl (fun F hF => ?_); simp only [Try.ntmps73, Try.results73, List.size_toArray, List.length_cons, List.length_nil, Nat.reduceAdd, Nat.reduceSub, Array.replicate_succ, Array.replicate_zero, List.push_toArray, List.append_toArray, List.nil_append, List.cons_append]; simp -implicitDefEqProofs (maxSteps := 1000000) only [go_sem, seval])
  subst hF
  refine DLoop.ind (IFI n b off c f cap p xs) n ⟨0, _, _, _, _, _, _, _, _, _, _, _, _, _, ⟨by omega⟩, rfl, ⟨by simp⟩, rfl⟩ ?_
  rintro k a h ⟨i, x2, x3, x5, x9, x10, x11, x12, x13, x14, x15, x16, x17, x18, hk, rfl, hI, rfl⟩
  simp -implicitDefEqProofs (maxSteps := 1000000) only [go_sem, seval, *]
  refine CondK.split (fun hc => ?_) (fun hc => ?_)
  · have hlt : i < n := by simpa using hc
    have h0 : (0 : Int) ≤ (i : Int) := by omega
    have h1 : (i : Int) < (n : Int) := by omega
    have hxl := readI_len hx.out
    have hxi : xs[i]? = some xs[i] := List.getElem?_eq_getElem (by omega)
    have hro := readI_get hx.out i _ hxi
    have hp' : Cr Try.prog f (#[] ++ #[.int .i64 xs[i]] ++ cap) (Hp.none_.cell? F) (.bool (p xs[i])) := by
      have := (hp xs[i]).mono (ro' := Hp.none_.cell? F) (fun a u e => Hp.cell_ro e)
      simpa using this
    have hd : xs.drop i = xs[i] :: xs.drop (i + 1) := List.drop_eq_getElem_cons (by omega)
    have hI' := hI.out
    rw [hd, idxI] at hI'
    generalize hxv : xs[i] = x at *
    simp -implicitDefEqProofs (maxSteps := 1000000) only [go_sem, seval, hc, h0, h1, hro]
    rw [dwp_callFunc hent]
    simp -implicitDefEqProofs (maxSteps := 1000000) only [go_sem, seval]
    refine Cr.call hp' ?_
    simp -implicitDefEqProofs (maxSteps := 1000000) only [go_sem, seval]
    refine CondK.split (fun hc => ?_) (fun hc => ?_)
    · rw [if_pos hc] at hI'
      simp -implicitDefEqProofs (maxSteps := 1000000) only [go_sem, seval]
      rw [hI']
    · rw [if_neg (by simp [hc])] at hI'
      simp -implicitDefEqProofs (maxSteps := 1000000) only [go_sem, seval]
      have hw : IntKind.i64.wrap ((i : Int) + 1) = ((i + 1 : Nat) : Int) := by
        have := hn.out
        rw [IntWalk.i64_in _ (by omega)]; push_cast; rfl
      have hk' := hk.out
      rw [hw]
      exact LoopK.intro (k - 1) (by omega) ⟨i + 1, _, _, _, _, _, _, _, _, _, _, _, _, _, ⟨by omega⟩, rfl, ⟨by rw [hI']; push_cast; rfl⟩, rfl⟩
  · have hge : n ≤ i := by simpa using hc
    have hxl := readI_len hx.out
    have hI' := hI.out
    rw [List.drop_eq_nil_of_le (by omega), idxI] at hI'
    simp -implicitDefEqProofs (maxSteps := 1000000) only [go_sem, seval, hc]
    rw [hI']

theorem containsFunc_ok (ro : Addr → Option Value) (b off n c f : Nat) (cap : Array Value) (p : Int → Bool) (xs : List Int) (hx : Hold (readI ro b off n = some xs)) (hn : Hold (n < 2 ^ 63)) (hent : entB Try.prog f = true)
    (hp : ∀ x, Cr Try.prog f (#[.int .i64 x] ++ cap) ro (.bool (p x))) :
    Cr Try.prog 59 #[.slice (some ⟨b, off, none⟩) n c, .func (.func f) #[] cap] ro (.bool (xs.any p)) := by
  (refine Cr.of Try.func59 rfl rfl (fun F hF => ?_); simp only [Try.ntmps59, Try.results59, List.size_toArray, List.length_cons, List.length_nil, Nat.reduceAdd, Nat.reduceSub, Array.replicate_succ, Array.replicate_zero, List.push_toArray, List.append_toArray, List.nil_append, List.cons_append]; simp -implicitDefEqProofs (maxSteps := 1000000) only [go_sem, seval])
  subst hF
  refine Cr.call (indexFunc_ok _ b off n c f cap p xs ⟨?_⟩ hn hent ?_) ?_
  · exact readI_mono (fun a u e => Hp.cell_ro e) hx.out
  · intro x; exact (hp x).mono (fun a u e => Hp.cell_ro e)
  · simp -implicitDefEqProofs (maxSteps := 1000000) only [go_sem, seval]
    rw [← idxI_ge p xs 0 (by omega)]


end Go.Proofs.Ytlblahfndlgfmaa
