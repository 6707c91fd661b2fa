/-
  Walks. Conditions: none.
-/
import Derived.Test.YtdhhaglaikdpbaaB24
set_option linter.unusedVariables false
set_option linter.unusedSimpArgs false
namespace Go.Proofs.Ytdhhaglaikdpbaa
open Go.RowKit Go.SL
set_option maxHeartbeats 1000000
set_option maxRecDepth 1000000
attribute [local go_sem] i64w
attribute [local go_sem] dwp_eqGuardE dwp_eqGuardN rval_eqGuardE rval_eqGuardN
/-- The smallest and the greatest integer of a list that is not empty. -/
def minL : List Int → Int
  | [] => 0
  | x :: r => r.foldl min x
def maxL : List Int → Int
  | [] => 0
  | x :: r => r.foldl max x
def IMin (n b off c : Nat) (y : Int) (r : List Int) (k : Nat) (a : Act) (h : Hp) : Prop :=
  ∃ (i : Nat), Hold (i + k = n) ∧ Hold (1 ≤ i) ∧ h = Hp.none_ ∧ a = (fun x : Nat → Value => (⟨#[.slice (some ⟨b, off, none⟩) n c, x 1, x 2, .int .i64 ((r.take (i - 1)).foldl min y), .int .i64 i, x 5, x 6, x 7, x 8, x 9, x 10, x 11, x 12, x 13, x 14, x 15, x 16, x 17, x 18, x 19, x 20, x 21, x 22, x 23, x 24], []⟩ : Act)) (fun i => a.tmps.getD i undef)
theorem min_ok (ro : Addr → Option Value) (b off n c : Nat) (y : Int) (r : List Int) (hx : Hold (readI ro b off n = some (y :: r))) (hn : Hold (n < 2 ^ 63)) :
    Cr Try.prog 65 #[.slice (some ⟨b, off, none⟩) n c] ro (.int .i64 (minL (y :: r))) := by
  have hlen : r.length + 1 = n := by simpa using readI_len hx.out
  have c1 : ((n : Int) < 1) = False := by simp; omega
  have c2 : (0 : Int) < (n : Int) := by omega
  have r0 : ro ⟨b, off, none⟩ = some (.int .i64 y) := by have := readI_get hx.out 0 y rfl; simpa using this
  (refine Cr.of Try.func65 rfl rfl (fun F hF => ?_); simp only [Try.ntmps65, Try.results65, List.size_toArray, List.length_cons, List.length_nil, Nat.reduceAdd, Nat.reduceSub, Array.replicate_succ, Array.replicate_zero, List.push_toArray, List.append_toArray, List.nil_append, List.cons_append]; simp -implicitDefEqProofs (maxSteps := 1000000) only [go_sem, seval])
  subst hF
  simp -implicitDefEqProofs (maxSteps := 1000000) only [go_sem, seval, c1, c2, r0]
  refine DLoop.ind (IMin n b off c y r) (n - 1) ⟨1, ⟨by omega⟩, ⟨by omega⟩, rfl, (by kernel_rfl)⟩ ?_
  (rintro k a h ⟨i, fa0, fa1, rfl, ha⟩; generalize (fun i => Array.getD a.tmps i undef) = x at ha; dsimp only at ha; subst ha)
  simp -implicitDefEqProofs (maxSteps := 1000000) only [go_sem, seval, *]
  refine CondK.split (fun hc => ?_) (fun hc => ?_)
  · have hlt : i < n := by simpa using hc
    have f0' := fa0.out
    have f1' := fa1.out
    have h0 : (0 : Int) ≤ (i : Int) := by omega
    have h1 : (i : Int) < (n : Int) := by omega
    obtain ⟨z, hz⟩ : ∃ z, r[i - 1]? = some z := ⟨_, List.getElem?_eq_getElem (by omega)⟩
    have hro := readI_get hx.out i z (by rw [← hz]; rw [show i = (i - 1) + 1 by omega]; simp)
    simp -implicitDefEqProofs (maxSteps := 1000000) only [go_sem, seval, hc, h0, h1, hro]
    have hw : IntKind.i64.wrap ((i : Int) + 1) = ((i + 1 : Nat) : Int) := by
      have := hn.out
      rw [IntWalk.i64_in _ (by omega)]; push_cast; rfl
    have ht : min ((r.take (i - 1)).foldl min y) z = (r.take (i + 1 - 1)).foldl min y := by
      rw [show i + 1 - 1 = (i - 1) + 1 by omega, List.take_add_one, List.foldl_append, hz]; rfl
    rw [hw, ht]
    exact LoopK.intro (k - 1) (by omega) ⟨i + 1, ⟨by omega⟩, ⟨by omega⟩, rfl, (by kernel_rfl)⟩
  · have hge : n ≤ i := by simpa using hc
    have f0' := fa0.out
    simp -implicitDefEqProofs (maxSteps := 1000000) only [go_sem, seval, hc]
    rw [List.take_of_length_le (by omega)]
    rfl
def IMax (n b off c : Nat) (y : Int) (r : List Int) (k : Nat) (a : Act) (h : Hp) : Prop :=
  ∃ (i : Nat), Hold (i + k = n) ∧ Hold (1 ≤ i) ∧ h = Hp.none_ ∧ a = (fun x : Nat → Value => (⟨#[.slice (some ⟨b, off, none⟩) n c, x 1, x 2, .int .i64 ((r.take (i - 1)).foldl max y), .int .i64 i, x 5, x 6, x 7, x 8, x 9, x 10, x 11, x 12, x 13, x 14, x 15, x 16, x 17, x 18, x 19, x 20, x 21, x 22, x 23, x 24], []⟩ : Act)) (fun i => a.tmps.getD i undef)
theorem max_ok (ro : Addr → Option Value) (b off n c : Nat) (y : Int) (r : List Int) (hx : Hold (readI ro b off n = some (y :: r))) (hn : Hold (n < 2 ^ 63)) :
    Cr Try.prog 66 #[.slice (some ⟨b, off, none⟩) n c] ro (.int .i64 (maxL (y :: r))) := by
  have hlen : r.length + 1 = n := by simpa using readI_len hx.out
  have c1 : ((n : Int) < 1) = False := by simp; omega
  have c2 : (0 : Int) < (n : Int) := by omega
  have r0 : ro ⟨b, off, none⟩ = some (.int .i64 y) := by have := readI_get hx.out 0 y rfl; simpa using this
  (refine Cr.of Try.func66 rfl rfl (fun F hF => ?_); simp only [Try.ntmps66, Try.results66, List.size_toArray, List.length_cons, List.length_nil, Nat.reduceAdd, Nat.reduceSub, Array.replicate_succ, Array.replicate_zero, List.push_toArray, List.append_toArray, List.nil_append, List.cons_append]; simp -implicitDefEqProofs (maxSteps := 1000000) only [go_sem, seval])
  subst hF
  simp -implicitDefEqProofs (maxSteps := 1000000) only [go_sem, seval, c1, c2, r0]
  refine DLoop.ind (IMax n b off c y r) (n - 1) ⟨1, ⟨by omega⟩, ⟨by omega⟩, rfl, (by kernel_rfl)⟩ ?_
  (rintro k a h ⟨i, fa0, fa1, rfl, ha⟩; generalize (fun i => Array.getD a.tmps i undef) = x at ha; dsimp only at ha; subst ha)
  simp -implicitDefEqProofs (maxSteps := 1000000) only [go_sem, seval, *]
  refine CondK.split (fun hc => ?_) (fun hc => ?_)
  · have hlt : i < n := by simpa using hc
    have f0' := fa0.out
    have f1' := fa1.out
    have h0 : (0 : Int) ≤ (i : Int) := by omega
    have h1 : (i : Int) < (n : Int) := by omega
    obtain ⟨z, hz⟩ : ∃ z, r[i - 1]? = some z := ⟨_, List.getElem?_eq_getElem (by omega)⟩
    have hro := readI_get hx.out i z (by rw [← hz]; rw [show i = (i - 1) + 1 by omega]; simp)
    simp -implicitDefEqProofs (maxSteps := 1000000) only [go_sem, seval, hc, h0, h1, hro]
    have hw : IntKind.i64.wrap ((i : Int) + 1) = ((i + 1 : Nat) : Int) := by
      have := hn.out
      rw [IntWalk.i64_in _ (by omega)]; push_cast; rfl
    have ht : max ((r.take (i - 1)).foldl max y) z = (r.take (i + 1 - 1)).foldl max y := by
      rw [show i + 1 - 1 = (i - 1) + 1 by omega, List.take_add_one, List.foldl_append, hz]; rfl
    rw [hw, ht]
    exact LoopK.intro (k - 1) (by omega) ⟨i + 1, ⟨by omega⟩, ⟨by omega⟩, rfl, (by kernel_rfl)⟩
  · have hge : n ≤ i := by simpa using hc
    have f0' := fa0.out
    simp -implicitDefEqProofs (maxSteps := 1000000) only [go_sem, seval, hc]
    rw [List.take_of_length_le (by omega)]
    rfl

end Go.Proofs.Ytdhhaglaikdpbaa
