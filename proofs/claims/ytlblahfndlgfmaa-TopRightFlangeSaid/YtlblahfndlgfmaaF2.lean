/-
  Walks. Conditions: none.
-/
import Derived.Test.YtlblahfndlgfmaaF1
set_option linter.unusedVariables false
set_option linter.unusedSimpArgs false
namespace Go.Proofs.Ytlblahfndlgfmaa
open Go.RowKit Go.SL
set_option maxHeartbeats 1000000
set_option maxRecDepth 1000000
attribute [local go_sem] fl_getD fl_get fl_set lk_def st_def gL_nil gL_zero gL_succ sL_nil_zero sL_nil_succ sL_zero sL_succ Option.getD_none FgK_app onlyL_nil onlyL_none onlyL_some setO_some toB_bool toB_undef yl_def
attribute [local go_sem high] GuardK_yl GuardL_yl
attribute [local go_sem] initL_one initL_cons lastL_one lastL_cons LastK_app fin_round Fr.inr_w0 Fr.inr_ro Fr.inr_M cell_inr LoopO_some YieldK_some RoundQ_normal RoundQ_ret RoundQ_exit EndR_none EndR_some BegK_app BegR_some OutR_none OutR_ret OutR_exit LeftR_some LeftK_app
attribute [local go_sem] add_none
theorem mulF_bd {a b A B : Int} (h1 : -A ≤ a) (h2 : a ≤ A) (h3 : -B ≤ b) (h4 : b ≤ B) : -(A * B) ≤ a * b ∧ a * b ≤ A * B := by
  have hA : 0 ≤ A := by omega
  have hB : 0 ≤ B := by omega
  have e1 : a * b ≤ A * B := by
    rcases Int.le_total 0 b with hb | hb
    · exact Int.le_trans (Int.mul_le_mul_of_nonneg_right h2 hb) (Int.mul_le_mul_of_nonneg_left h4 hA)
    · have := Int.mul_le_mul_of_nonneg_right (show -a ≤ A by omega) (show 0 ≤ -b by omega)
      have h5 := Int.mul_le_mul_of_nonneg_left (show -b ≤ B by omega) hA
      rw [Int.neg_mul_neg] at this
      omega
  have e2 : -(a * b) ≤ A * B := by
    rcases Int.le_total 0 b with hb | hb
    · have := Int.mul_le_mul_of_nonneg_right (show -a ≤ A by omega) hb
      have h5 := Int.mul_le_mul_of_nonneg_left h4 hA
      rw [Int.neg_mul] at this
      omega
    · have := Int.mul_le_mul_of_nonneg_right h2 (show 0 ≤ -b by omega)
      have h5 := Int.mul_le_mul_of_nonneg_left (show -b ≤ B by omega) hA
      rw [Int.mul_neg] at this
      omega
  omega
/-- Spans as cells. -/
def spC (p : Int × Int) : List Value := [.int .i64 p.1, .int .i64 p.2]
def flS (f : Nat → Int × Int) : Nat → List Value
  | 0 => []
  | n + 1 => flS f n ++ spC (f n)
theorem flS_len (f : Nat → Int × Int) (n : Nat) : (flS f n).length = n * 2 := by
  induction n with
  | zero => rfl
  | succ n ih => rw [flS, List.length_append, ih]; simp [spC]; omega
theorem flS_get0 (f : Nat → Int × Int) : ∀ {n k : Nat}, k < n → (flS f n)[k * 2]? = some (.int .i64 (f k).1)
  | 0, _, h => absurd h (by omega)
  | n + 1, k, h => by
    rw [flS]
    by_cases e : k = n
    · subst e
      rw [List.getElem?_append_right (by rw [flS_len]; omega), flS_len]
      simp [spC]
    · rw [List.getElem?_append_left (by rw [flS_len]; omega)]
      exact flS_get0 f (by omega)
theorem flS_get1 (f : Nat → Int × Int) : ∀ {n k : Nat}, k < n → (flS f n)[k * 2 + 1]? = some (.int .i64 (f k).2)
  | 0, _, h => absurd h (by omega)
  | n + 1, k, h => by
    rw [flS]
    by_cases e : k = n
    · subst e
      rw [List.getElem?_append_right (by rw [flS_len]; omega), flS_len]
      have : k * 2 + 1 - k * 2 = 1 := by omega
      rw [this]
      rfl
    · rw [List.getElem?_append_left (by rw [flS_len]; omega)]
      exact flS_get1 f (by omega)
def updF (f : Nat → Int × Int) (k : Nat) (p : Int × Int) : Nat → Int × Int := fun j => if j = k then p else f j
theorem flS_congr {f g : Nat → Int × Int} : ∀ {n : Nat}, (∀ k, k < n → f k = g k) → flS f n = flS g n
  | 0, _ => rfl
  | n + 1, h => by rw [flS, flS, flS_congr (n := n) fun k hk => h k (by omega), h n (by omega)]
theorem flS_set (f : Nat → Int × Int) (p : Int × Int) : ∀ {n k : Nat}, k < n → ((flS f n).set (k * 2) (.int .i64 p.1)).set (k * 2 + 1) (.int .i64 p.2) = flS (updF f k p) n
  | 0, _, h => absurd h (by omega)
  | n + 1, k, h => by
    rw [flS, flS]
    by_cases e : k = n
    · subst e
      have h1 : flS (updF f k p) k = flS f k := flS_congr fun j hj => by unfold updF; rw [if_neg (by omega)]
      have h2 : updF f k p k = p := if_pos rfl
      rw [h1, h2, List.set_append_right _ _ (by rw [flS_len]; omega), List.set_append_right _ _ (by rw [flS_len]; omega), flS_len]
      have : k * 2 + 1 - k * 2 = 1 := by omega
      rw [this, Nat.sub_self]
      rfl
    · have h2 : updF f k p n = f n := if_neg (fun h => e h.symm)
      rw [h2, List.set_append_left _ _ (by rw [flS_len]; omega), List.set_append_left _ _ (by rw [List.length_set, flS_len]; omega), flS_set f p (by omega)]
/-- What a bolt loses. -/
def lossV (le mo s : Int) : Int × Int := (le * s / 1000, (mo * s + 999) / 1000)
/-- The forces and what was lost, while the others are looked at. -/
def goF (le mo : Int) (sh : List Int) (n i : Nat) (f : Nat → Int × Int) : Nat → Nat → Int × Int
  | 0 => f
  | j + 1 => if j = 0 then f else updF (goF le mo sh n i f j) ((i + j) % n) (max 0 (((goF le mo sh n i f j) ((i + j) % n)).1 - (lossV le mo (shareV sh n j)).2), max 0 (((goF le mo sh n i f j) ((i + j) % n)).2 - (lossV le mo (shareV sh n j)).1))
def goL (le mo : Int) (sh : List Int) (n i : Nat) (l : Nat → Int × Int) : Nat → Nat → Int × Int
  | 0 => l
  | j + 1 => if j = 0 then l else updF (goL le mo sh n i l j) ((i + j) % n) (((goL le mo sh n i l j) ((i + j) % n)).1 + (lossV le mo (shareV sh n j)).1, ((goL le mo sh n i l j) ((i + j) % n)).2 + (lossV le mo (shareV sh n j)).2)
theorem goF_one {le mo : Int} {sh : List Int} {n i : Nat} {f : Nat → Int × Int} : goF le mo sh n i f 1 = f := rfl
theorem goL_one {le mo : Int} {sh : List Int} {n i : Nat} {l : Nat → Int × Int} : goL le mo sh n i l 1 = l := rfl
theorem goF_step {le mo : Int} {sh : List Int} {n i j : Nat} {f : Nat → Int × Int} (h : j ≠ 0) : goF le mo sh n i f (j + 1) = updF (goF le mo sh n i f j) ((i + j) % n) (max 0 (((goF le mo sh n i f j) ((i + j) % n)).1 - (mo * shareV sh n j + 999) / 1000), max 0 (((goF le mo sh n i f j) ((i + j) % n)).2 - le * shareV sh n j / 1000)) := by rw [goF, if_neg h]; rfl
theorem goL_step {le mo : Int} {sh : List Int} {n i j : Nat} {l : Nat → Int × Int} (h : j ≠ 0) : goL le mo sh n i l (j + 1) = updF (goL le mo sh n i l j) ((i + j) % n) (((goL le mo sh n i l j) ((i + j) % n)).1 + le * shareV sh n j / 1000, ((goL le mo sh n i l j) ((i + j) % n)).2 + (mo * shareV sh n j + 999) / 1000) := by rw [goL, if_neg h]; rfl
theorem loss_bd {le mo s : Int} (h1 : 0 ≤ le ∧ le ≤ 100000000) (h2 : 0 ≤ mo ∧ mo ≤ 100000000) (h3 : 0 ≤ s ∧ s ≤ 500) : (0 ≤ le * s ∧ le * s ≤ 50000000000) ∧ (0 ≤ mo * s ∧ mo * s ≤ 50000000000) := by
  have m1 := mulF_bd (a := le) (b := s) (A := 100000000) (B := 500) (by omega) (by omega) (by omega) (by omega)
  have m2 := mulF_bd (a := mo) (b := s) (A := 100000000) (B := 500) (by omega) (by omega) (by omega) (by omega)
  exact ⟨⟨Int.mul_nonneg h1.1 h3.1, by omega⟩, ⟨Int.mul_nonneg h2.1 h3.1, by omega⟩⟩
def FBd (f : Nat → Int × Int) (B : Int) : Prop := ∀ k, (0 ≤ (f k).1 ∧ (f k).1 ≤ B) ∧ 0 ≤ (f k).2 ∧ (f k).2 ≤ B
theorem updF_bd {f : Nat → Int × Int} {B : Int} {k : Nat} {p : Int × Int} (h : FBd f B) (hp : (0 ≤ p.1 ∧ p.1 ≤ B) ∧ 0 ≤ p.2 ∧ p.2 ≤ B) : FBd (updF f k p) B := by
  intro j
  unfold updF
  split
  · exact hp
  · exact h j
theorem FBd.mono {f : Nat → Int × Int} {B C : Int} (h : FBd f B) (hc : B ≤ C) : FBd f C := fun k => by have := h k; omega
theorem goF_bd {le mo : Int} {sh : List Int} {n i : Nat} {f : Nat → Int × Int} (h1 : 0 ≤ le ∧ le ≤ 100000000) (h2 : 0 ≤ mo ∧ mo ≤ 100000000) (h3 : ∀ j, 0 ≤ shareV sh n j ∧ shareV sh n j ≤ 500) (hf : FBd f 100000000) : ∀ j, FBd (goF le mo sh n i f j) 100000000
  | 0 => hf
  | j + 1 => by
    rw [goF]
    split
    · exact hf
    · have ih := goF_bd h1 h2 h3 hf (i := i) (n := n) j
      have b := loss_bd h1 h2 (h3 j)
      have q := ih ((i + j) % n)
      refine updF_bd ih ?_
      unfold lossV
      dsimp only
      omega
theorem goL_bd {le mo B : Int} {sh : List Int} {n i : Nat} {l : Nat → Int × Int} (h1 : 0 ≤ le ∧ le ≤ 100000000) (h2 : 0 ≤ mo ∧ mo ≤ 100000000) (h3 : ∀ j, 0 ≤ shareV sh n j ∧ shareV sh n j ≤ 500) (hl : FBd l B) : ∀ j : Nat, FBd (goL le mo sh n i l j) (B + j * 50000001)
  | 0 => hl.mono (by omega)
  | j + 1 => by
    rw [goL]
    split
    · exact hl.mono (by omega)
    · have ih := goL_bd h1 h2 h3 hl (i := i) (n := n) j
      have b := loss_bd h1 h2 (h3 j)
      have q := ih ((i + j) % n)
      refine updF_bd (ih.mono (by push_cast; omega)) ?_
      unfold lossV
      dsimp only
      push_cast
      omega

end Go.Proofs.Ytlblahfndlgfmaa
