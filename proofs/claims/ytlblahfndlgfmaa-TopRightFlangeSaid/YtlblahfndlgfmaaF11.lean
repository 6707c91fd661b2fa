/-
  Walks. Conditions: none.
-/
import Derived.Test.YtlblahfndlgfmaaF10
set_option linter.unusedVariables false
set_option linter.unusedSimpArgs false
namespace Go.Proofs.Ytlblahfndlgfmaa
open Go.RowKit Go.SL
set_option maxHeartbeats 1000000
set_option maxRecDepth 1000000
/-- The forces while all bolts are tightened in turn, by what was lost. -/
def InvL (g0 g1 : Int) (j : Nat) (f l : Nat → Int × Int) : Prop := ∀ q, (q < j → f q = (max 0 (g0 - (l q).2), max 0 (g1 - (l q).1))) ∧ (j ≤ q → f q = (0, 0))
theorem loss_nn {le mo s : Int} (h1 : 0 ≤ le) (h2 : 0 ≤ mo) (h3 : 0 ≤ s) : 0 ≤ (lossV le mo s).1 ∧ 0 ≤ (lossV le mo s).2 := by
  have m1 : 0 ≤ le * s := Int.mul_nonneg h1 h3
  have m2 : 0 ≤ mo * s := Int.mul_nonneg h2 h3
  unfold lossV
  dsimp only
  omega
theorem go_inv {g0 g1 le mo : Int} {sh : List Int} {n i j : Nat} {f l : Nat → Int × Int} (h1 : 0 ≤ le) (h2 : 0 ≤ mo) (hs : ∀ k, 0 ≤ shareV sh n k) (h : InvL g0 g1 j f l) : ∀ k, InvL g0 g1 j (goF le mo sh n i f k) (goL le mo sh n i l k)
  | 0 => h
  | k + 1 => by
    rw [goF, goL]
    by_cases hk : k = 0
    · rw [if_pos hk, if_pos hk]; exact h
    · rw [if_neg hk, if_neg hk]
      have ih := go_inv (i := i) h1 h2 hs h k
      have ln := loss_nn h1 h2 (hs k)
      intro q
      have iq := ih q
      unfold updF
      by_cases hq : q = (i + k) % n
      · rw [if_pos hq, if_pos hq, ← hq]
        generalize goF le mo sh n i f k q = a at *
        generalize goL le mo sh n i l k q = b at *
        refine ⟨fun hj => ?_, fun hj => ?_⟩
        · rw [iq.1 hj]
          dsimp only
          refine Prod.ext ?_ ?_ <;> dsimp only <;> omega
        · rw [iq.2 hj]
          dsimp only
          refine Prod.ext ?_ ?_ <;> dsimp only <;> omega
      · rw [if_neg hq, if_neg hq]
        exact iq
theorem go_self {le mo : Int} {sh : List Int} {n i : Nat} {f l : Nat → Int × Int} (hi : i < n) : ∀ k, k ≤ n → goF le mo sh n i f k i = f i ∧ goL le mo sh n i l k i = l i
  | 0, _ => ⟨rfl, rfl⟩
  | k + 1, hk => by
    rw [goF, goL]
    by_cases h0 : k = 0
    · rw [if_pos h0, if_pos h0]; exact ⟨rfl, rfl⟩
    · rw [if_neg h0, if_neg h0]
      have ne : i ≠ (i + k) % n := by
        intro e
        by_cases hlt : i + k < n
        · rw [Nat.mod_eq_of_lt hlt] at e; omega
        · rw [Nat.mod_eq_sub_mod (by omega), Nat.mod_eq_of_lt (by omega)] at e; omega
      unfold updF
      rw [if_neg ne, if_neg ne]
      exact go_self hi k (by omega)
theorem pull_inv {g0 g1 : Int} {sh : List Int} {n j : Nat} {f l : Nat → Int × Int} (hg : 0 ≤ g0 ∧ g0 ≤ g1) (hs : ∀ k, 0 ≤ shareV sh n k) (h : InvL g0 g1 j f l) : InvL g0 g1 (j + 1) (pullF f sh n j g0 g1) (pullL f l sh n j g0 g1) := by
  have f0 : f j = (0, 0) := (h j).2 (Nat.le_refl j)
  unfold pullF pullL
  refine go_inv (by omega) (by omega) hs ?_ n
  intro q
  unfold updF
  rw [f0]
  dsimp only
  by_cases hq : q = j
  · rw [if_pos hq, if_pos hq]
    refine ⟨fun _ => Prod.ext ?_ ?_, fun hj => ?_⟩
    · dsimp only; omega
    · dsimp only; omega
    · omega
  · rw [if_neg hq, if_neg hq]
    exact ⟨fun hj => (h q).1 (by omega), fun hj => (h q).2 (by omega)⟩
theorem pull_self {g0 g1 : Int} {sh : List Int} {n j : Nat} {f l : Nat → Int × Int} (hj : j < n) (hg : 0 ≤ g0 ∧ g0 ≤ g1) (h : InvL g0 g1 j f l) : pullF f sh n j g0 g1 j = (g0, g1) ∧ pullL f l sh n j g0 g1 j = (0, 0) := by
  have f0 : f j = (0, 0) := (h j).2 (Nat.le_refl j)
  unfold pullF pullL
  have q := go_self (le := max 0 (g0 - (f j).2)) (mo := max 0 (g1 - (f j).1)) (sh := sh) (f := updF f j (max (f j).1 g0, max (f j).2 g1)) (l := updF l j (0, 0)) hj n (Nat.le_refl n)
  rw [q.1, q.2]
  unfold updF
  rw [if_pos rfl, if_pos rfl, f0]
  dsimp only
  exact ⟨Prod.ext (by dsimp only; omega) (by dsimp only; omega), rfl⟩
/-- All bolts in turn, with the same torque. -/
def rndP (n : Nat) (tq : Int) : List (Int × Int) := (List.range n).map fun (i : Nat) => (((i : Nat) : Int), tq)
theorem rndP_succ {n : Nat} {tq : Int} : rndP (n + 1) tq = rndP n tq ++ [((n : Int), tq)] := by
  unfold rndP
  rw [List.range_succ, List.map_append]
  rfl
theorem rnd_inv {ld th hd ot0 ot1 oh0 oh1 st0 st1 sp0 sp1 yi0 yi1 tq : Int} {sh : List Int} {n : Nat} (hg : 0 ≤ gA ld th hd ot0 ot1 oh0 oh1 st0 st1 sp0 sp1 yi0 yi1 tq ∧ gA ld th hd ot0 ot1 oh0 oh1 st0 st1 sp0 sp1 yi0 yi1 tq ≤ gB ld th hd ot0 ot1 oh0 oh1 st0 st1 sp0 sp1 yi0 yi1 tq) (hs : ∀ k, 0 ≤ shareV sh n k) : ∀ j, InvL (gA ld th hd ot0 ot1 oh0 oh1 st0 st1 sp0 sp1 yi0 yi1 tq) (gB ld th hd ot0 ot1 oh0 oh1 st0 st1 sp0 sp1 yi0 yi1 tq) j (runF ld th hd ot0 ot1 oh0 oh1 st0 st1 sp0 sp1 yi0 yi1 sh n fl0 (rndP j tq)).1 (runF ld th hd ot0 ot1 oh0 oh1 st0 st1 sp0 sp1 yi0 yi1 sh n fl0 (rndP j tq)).2.1
  | 0 => fun q => ⟨fun h => absurd h (by omega), fun _ => rfl⟩
  | j + 1 => by
    have ih := rnd_inv hg hs (n := n) (sh := sh) j
    rw [rndP_succ]
    unfold runF
    rw [List.foldl_append]
    exact pull_inv hg hs ih
theorem rnd_last {ld th hd ot0 ot1 oh0 oh1 st0 st1 sp0 sp1 yi0 yi1 tq : Int} {sh : List Int} {n j : Nat} (hj : j < n) (hg : 0 ≤ gA ld th hd ot0 ot1 oh0 oh1 st0 st1 sp0 sp1 yi0 yi1 tq ∧ gA ld th hd ot0 ot1 oh0 oh1 st0 st1 sp0 sp1 yi0 yi1 tq ≤ gB ld th hd ot0 ot1 oh0 oh1 st0 st1 sp0 sp1 yi0 yi1 tq) (hs : ∀ k, 0 ≤ shareV sh n k) :
    (runF ld th hd ot0 ot1 oh0 oh1 st0 st1 sp0 sp1 yi0 yi1 sh n fl0 (rndP (j + 1) tq)).1 j = (gA ld th hd ot0 ot1 oh0 oh1 st0 st1 sp0 sp1 yi0 yi1 tq, gB ld th hd ot0 ot1 oh0 oh1 st0 st1 sp0 sp1 yi0 yi1 tq) ∧ gB ld th hd ot0 ot1 oh0 oh1 st0 st1 sp0 sp1 yi0 yi1 tq ≤ (runF ld th hd ot0 ot1 oh0 oh1 st0 st1 sp0 sp1 yi0 yi1 sh n fl0 (rndP (j + 1) tq)).2.2 := by
  have ih := rnd_inv hg hs (n := n) (sh := sh) j
  have q := pull_self (sh := sh) hj hg ih
  have e : runF ld th hd ot0 ot1 oh0 oh1 st0 st1 sp0 sp1 yi0 yi1 sh n fl0 (rndP (j + 1) tq) = stF ld th hd ot0 ot1 oh0 oh1 st0 st1 sp0 sp1 yi0 yi1 sh n (runF ld th hd ot0 ot1 oh0 oh1 st0 st1 sp0 sp1 yi0 yi1 sh n fl0 (rndP j tq)) ((j : Int), tq) := by
    rw [rndP_succ]
    unfold runF
    rw [List.foldl_append]
    rfl
  rw [e]
  unfold stF
  dsimp only [Int.toNat_natCast]
  rw [q.1]
  dsimp only
  exact ⟨rfl, by omega⟩

end Go.Proofs.Ytlblahfndlgfmaa
