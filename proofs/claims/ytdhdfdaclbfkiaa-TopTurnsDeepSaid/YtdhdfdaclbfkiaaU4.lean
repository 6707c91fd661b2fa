/-
  Walks. Conditions: none.
-/
import Derived.Test.YtdhdfdaclbfkiaaU3
set_option linter.unusedVariables false
set_option linter.unusedSimpArgs false
namespace Go.Proofs.Ytdhdfdaclbfkiaa
open Go.RowKit Go.SL
set_option maxHeartbeats 1000000
set_option maxRecDepth 1000000
attribute [local go_sem] fl_getD fl_get fl_set lk_def st_def gL_nil gL_zero gL_succ sL_nil_zero sL_nil_succ sL_zero sL_succ Option.getD_none FgK_app onlyL_nil onlyL_none onlyL_some setO_some toB_bool toB_undef yl_def
attribute [local go_sem high] GuardK_yl GuardL_yl
theorem seg_get {p e : Int} {n a k i : Nat} (hi : i < k) (h : a + k ≤ n) : (segL (prL p e n) a k).getD i (0, 0) = prT p e (a + i) := by
  unfold segL prL
  rw [List.getD_eq_getElem?_getD, List.getElem?_take_of_lt hi, List.getElem?_drop, List.getElem?_map, List.getElem?_range (by omega)]
  rfl
theorem sh_lin {nd : Nat → Int × Int} {X d δ : Int} : ∀ {q N : Nat}, q + 1 ≤ N → (∀ i : Nat, i < N → nd i = (1000 * (X + (i : Int) * δ - d), 1000 * (X + (i : Int) * δ + d))) → shF nd (q + 1) = (1000 * (X + max 0 ((q : Int) * δ) - d), 1000 * (X + min 0 ((q : Int) * δ) + d))
  | 0, N, hq, h => by
    rw [shF, if_pos rfl, h 0 (by omega)]
    refine Prod.ext ?_ ?_
    · dsimp only; rw [show ((0 : Nat) : Int) * δ = 0 by rw [show ((0 : Nat) : Int) = 0 from rfl, Int.zero_mul]]; omega
    · dsimp only; rw [show ((0 : Nat) : Int) * δ = 0 by rw [show ((0 : Nat) : Int) = 0 from rfl, Int.zero_mul]]; omega
  | q + 1, N, hq, h => by
    have ih := sh_lin (q := q) (N := N) (by omega) h
    rw [shF, if_neg (by omega), ih, h (q + 1) (by omega)]
    have e : ((q + 1 : Nat) : Int) * δ = (q : Int) * δ + δ := by push_cast; rw [Int.add_mul]; omega
    have s1 : 0 ≤ δ → 0 ≤ (q : Int) * δ := fun hd => Int.mul_nonneg (by omega) hd
    have s2 : δ ≤ 0 → (q : Int) * δ ≤ 0 := fun hd => Int.mul_nonpos_of_nonneg_of_nonpos (by omega) hd
    rw [e]
    generalize (q : Int) * δ = t at *
    rcases Int.le_total 0 δ with hd | hd
    · have := s1 hd
      refine Prod.ext ?_ ?_
      · dsimp only; omega
      · dsimp only; omega
    · have := s2 hd
      refine Prod.ext ?_ ?_
      · dsimp only; omega
      · dsimp only; omega
theorem play500 (q1 q2 e1 e2 lo hi : Int) : playV (4 * q1) 500 500 (2 * e1) (4 * q2) 500 500 (2 * e2) lo hi = 8000 * (q2 - q1 + (e2 - e1)) := by
  unfold playV rightV leftV
  omega
theorem turns_nn (p l r c p' l' r' c' lo hi : Int) : 0 ≤ turnsV p l r c p' l' r' c' lo hi := by
  unfold turnsV
  split
  · omega
  · split
    · omega
    · rename_i h1 h2
      have hd : 0 ≤ driftV p p' := by unfold driftV; omega
      have := Int.ediv_nonneg (a := playV p l r c p' l' r' c' lo hi) (b := driftV p p') (by omega) hd
      omega
/-- So many teeth go in just if the turns are enough. -/
theorem ok_iff {lo hi q1 q2 e1 e2 : Int} {n m j : Nat} (hn : 1 ≤ n ∧ n ≤ 60) (hj : j < m) :
    okD lo hi 500 500 500 500 (prL (4 * q1) e1 n) (prL (4 * q2) e2 m) n j ↔ ((min (j + 1) n : Nat) : Int) ≤ turnsV (4 * q1) 500 500 (2 * e1) (4 * q2) 500 500 (2 * e2) lo hi := by
  obtain ⟨q, hq⟩ : ∃ q, min (j + 1) n = q + 1 := ⟨min (j + 1) n - 1, by omega⟩
  unfold okD
  rw [hq]
  have hsh := sh_lin (nd := ndF lo hi 500 500 500 500 (segL (prL (4 * q1) e1 n) (n - (q + 1)) (q + 1)) (segL (prL (4 * q2) e2 m) (j + 1 - (q + 1)) (q + 1)))
    (X := ((j + 1 - (q + 1) : Nat) : Int) * (4 * q2) - ((n - (q + 1) : Nat) : Int) * (4 * q1)) (d := q2 - q1 + (e2 - e1)) (δ := 4 * q2 - 4 * q1) (q := q) (N := q + 1) (Nat.le_refl _) (fun i hi' => by
      unfold ndF
      rw [seg_get hi' (by omega), seg_get hi' (by omega)]
      unfold needF prT mostF
      have a1 : ((j + 1 - (q + 1) + i : Nat) : Int) * (4 * q2) = ((j + 1 - (q + 1) : Nat) : Int) * (4 * q2) + (i : Int) * (4 * q2) := by push_cast; rw [Int.add_mul]
      have a2 : ((n - (q + 1) + i : Nat) : Int) * (4 * q1) = ((n - (q + 1) : Nat) : Int) * (4 * q1) + (i : Int) * (4 * q1) := by push_cast; rw [Int.add_mul]
      dsimp only
      have a3 : (i : Int) * (4 * q2 - 4 * q1) = (i : Int) * (4 * q2) - (i : Int) * (4 * q1) := Int.mul_sub ..
      rw [a1, a2, a3, Int.sub_self, Int.mul_zero, Int.mul_zero]
      refine Prod.ext ?_ ?_
      · dsimp only; omega
      · dsimp only; omega)
  rw [hsh]
  dsimp only
  have hp := play500 q1 q2 e1 e2 lo hi
  generalize ((j + 1 - (q + 1) : Nat) : Int) * (4 * q2) - ((n - (q + 1) : Nat) : Int) * (4 * q1) = X
  have hqn : q + 1 ≤ 60 := by omega
  unfold turnsV
  rw [hp]
  have hdr : driftV (4 * q1) (4 * q2) = 4000 * max (4 * q2 - 4 * q1) (-(4 * q2 - 4 * q1)) := by unfold driftV; omega
  rw [hdr]
  generalize q2 - q1 + (e2 - e1) = d
  generalize 4 * q2 - 4 * q1 = δ
  have s1 : 0 ≤ δ → 0 ≤ (q : Int) * δ := fun hd => Int.mul_nonneg (by omega) hd
  have s2 : δ ≤ 0 → (q : Int) * δ ≤ 0 := fun hd => Int.mul_nonpos_of_nonneg_of_nonpos (by omega) hd
  obtain ⟨a, ha⟩ : ∃ a, a = max δ (-δ) := ⟨_, rfl⟩
  have hqa : (q : Int) * a = max ((q : Int) * δ) (-((q : Int) * δ)) := by
    rcases Int.le_total 0 δ with hd | hd
    · have := s1 hd
      rw [show a = δ by omega]; omega
    · have := s2 hd
      rw [show a = -δ by omega, Int.mul_neg]; omega
  rw [← ha]
  have key : (1000 * (X + max 0 ((q : Int) * δ) - d) ≤ 1000 * (X + min 0 ((q : Int) * δ) + d)) ↔ (q : Int) * a ≤ 2 * d := by
    rw [hqa]
    rcases Int.le_total 0 δ with hd | hd
    · have := s1 hd; omega
    · have := s2 hd; omega
  rw [key]
  have hq0 : 0 ≤ (q : Int) * a := Int.mul_nonneg (by omega) (by omega)
  by_cases h1 : 8000 * d < 0
  · rw [if_pos h1]
    omega
  · rw [if_neg h1]
    by_cases h2 : 4000 * a = 0
    · rw [if_pos h2]
      have : a = 0 := by omega
      subst this
      omega
    · rw [if_neg h2]
      have hle := Int.le_ediv_iff_mul_le (a := (q : Int)) (b := 8000 * d) (c := 4000 * a) (by omega)
      have e : (q : Int) * (4000 * a) = 4000 * ((q : Int) * a) := by rw [← Int.mul_assoc, Int.mul_comm (q : Int) 4000, Int.mul_assoc]
      rw [e] at hle
      omega

end Go.Proofs.Ytdhdfdaclbfkiaa
