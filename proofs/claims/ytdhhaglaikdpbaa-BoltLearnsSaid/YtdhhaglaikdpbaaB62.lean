/-
  Walks. Conditions: none.
-/
import Derived.Test.YtdhhaglaikdpbaaB43
set_option linter.unusedVariables false
set_option linter.unusedSimpArgs false
namespace Go.Proofs.Ytdhhaglaikdpbaa
open Go.RowKit Go.SL
set_option maxHeartbeats 1000000
set_option maxRecDepth 1000000
/-- The least torque with which a force is reached, and whether a torque can have brought about a force. -/
def leastR (arm f : Int) : Int := (f * arm + 999) / 1000
def canB (arm t0 t1 f0 f1 : Int) : Bool := decide (max t0 (leastR arm f0) ≤ min t1 (leastR arm (f1 + 1) - 1))
/-- What is known of the frictions, so far. -/
structure LS where
  x0 : Int
  x1 : Int
  y0 : Int
  y1 : Int
  ok : Bool
def upS (s : LS) (t h : Int) : LS := if s.ok then ⟨min s.x0 t, max s.x1 t, min s.y0 h, max s.y1 h, true⟩ else ⟨min t t, max t t, min h h, max h h, true⟩
def inS (can : Int → Bool) (t h0 : Int) : Nat → LS → LS
  | 0, s => s
  | n + 1, s => if can (h0 + n) then upS (inS can t h0 n s) t (h0 + n) else inS can t h0 n s
def outS (can : Int → Int → Bool) (t0 h0 : Int) (m : Nat) : Nat → LS
  | 0 => ⟨0, 0, 0, 0, false⟩
  | n + 1 => inS (can (t0 + n)) (t0 + n) h0 m (outS can t0 h0 m n)
def ivS (s : LS) (t a e : Int) : LS := if a ≤ e then (if s.ok then ⟨min s.x0 t, max s.x1 t, min s.y0 a, max s.y1 e, true⟩ else ⟨t, t, a, e, true⟩) else s
theorem inS_iv {can : Int → Bool} {t h0 a b : Int} (ha : h0 ≤ a) : ∀ (n : Nat) (s : LS), (∀ h, h0 ≤ h → h < h0 + n → (can h = true ↔ a ≤ h ∧ h ≤ b)) → inS can t h0 n s = ivS s t a (min b (h0 + n - 1))
  | 0, s, _ => by
    unfold ivS
    rw [if_neg (by omega)]
    rfl
  | n + 1, s, hc => by
    have ih := inS_iv (t := t) ha n s (fun h h1 h2 => hc h h1 (by push_cast; omega))
    have hn := hc (h0 + n) (by omega) (by push_cast; omega)
    rw [inS, ih]
    have e : h0 + ((n + 1 : Nat) : Int) - 1 = h0 + n := by push_cast; omega
    rw [e]
    clear ih
    by_cases hcan : can (h0 + n) = true
    · rw [if_pos hcan]
      have hb := hn.1 hcan
      have e1 : min b (h0 + n) = h0 + n := by omega
      have e2 : min b (h0 + n - 1) = h0 + n - 1 := by omega
      rw [e1, e2]
      unfold ivS upS
      rw [if_pos hb.1]
      by_cases h1 : a ≤ h0 + n - 1
      · rw [if_pos h1]
        cases s.ok
        · simp only [if_true, Bool.false_eq_true, if_false, LS.mk.injEq, and_true]
          omega
        · simp only [if_true, LS.mk.injEq, and_true]
          omega
      · rw [if_neg h1]
        obtain rfl : a = h0 + n := by omega
        cases s.ok <;> simp
    · rw [if_neg hcan]
      have hb : ¬ (a ≤ h0 + n ∧ h0 + n ≤ b) := fun h => hcan (hn.2 h)
      unfold ivS
      by_cases h1 : h0 + n < a
      · rw [if_neg (by omega), if_neg (by omega)]
      · have e1 : min b (h0 + n) = b := by omega
        have e2 : min b (h0 + n - 1) = b := by omega
        rw [e1, e2]
theorem can_core {arm t0 t1 f0 f1 alo ahi : Int} (h1 : 1000 ≤ arm) (ha : alo ≤ arm ∧ arm ≤ ahi) (ht : 0 ≤ t0 ∧ t0 ≤ t1) (hf : 0 ≤ f0 ∧ f0 ≤ f1) :
    canB arm t0 t1 f0 f1 = true ↔ knLo f1 t0 alo ≤ arm ∧ arm ≤ knHi f0 t1 ahi := by
  have q1 : 1000 * t0 / (f1 + 1) < arm ↔ 1000 * t0 < arm * (f1 + 1) := Int.ediv_lt_iff_lt_mul (by omega)
  have q2 : (f1 + 1) * arm = arm * (f1 + 1) := Int.mul_comm _ _
  have q3 : f0 * arm = arm * f0 := Int.mul_comm _ _
  have q4 : arm * (f1 + 1) ≥ arm * (f0 + 1) := Int.mul_le_mul_of_nonneg_left (by omega) (by omega)
  have q5 : arm * (f0 + 1) = arm * f0 + arm := by rw [Int.mul_add, Int.mul_one]
  unfold canB leastR knLo knHi
  rw [decide_eq_true_eq, q2, q3]
  split
  · rename_i h0
    have q6 : arm ≤ 1000 * t1 / f0 ↔ arm * f0 ≤ 1000 * t1 := Int.le_ediv_iff_mul_le h0
    generalize arm * (f1 + 1) = Q at *
    generalize arm * f0 = R at *
    generalize 1000 * t1 / f0 = D at *
    generalize 1000 * t0 / (f1 + 1) = E at *
    omega
  · have h0 : f0 = 0 := by omega
    subst h0
    generalize arm * (f1 + 1) = Q at *
    generalize 1000 * t0 / (f1 + 1) = E at *
    omega
theorem fits_iff {oh0 oh1 hd a A0 A1 h : Int} (hd0 : 0 ≤ hd) (hh : oh0 ≤ h ∧ h ≤ oh1) : (A0 ≤ a + hd * h ∧ a + hd * h ≤ A1) ↔ fiA oh0 hd a A0 A1 ≤ h ∧ h ≤ fiB oh1 hd a A0 A1 := by
  unfold fiA fiB
  by_cases hz : hd = 0
  · subst hz
    rw [if_pos rfl, if_pos rfl, Int.zero_mul]
    by_cases hc : allI A0 A1 [a] = true
    · rw [if_pos hc, if_pos hc]
      simp [allI] at hc
      omega
    · rw [if_neg hc, if_neg hc]
      simp [allI] at hc
      omega
  · rw [if_neg hz, if_neg hz]
    unfold ceilV
    have q1 : -h ≤ -(A0 - a) / hd ↔ -h * hd ≤ -(A0 - a) := Int.le_ediv_iff_mul_le (by omega)
    have q2 : h ≤ (A1 - a) / hd ↔ h * hd ≤ A1 - a := Int.le_ediv_iff_mul_le (by omega)
    have q3 : -h * hd = -(hd * h) := by rw [Int.neg_mul, Int.mul_comm]
    have q4 : h * hd = hd * h := Int.mul_comm _ _
    rw [q3] at q1
    rw [q4] at q2
    generalize hd * h = M at *
    generalize -(A0 - a) / hd = D at *
    generalize (A1 - a) / hd = E at *
    omega
theorem minL_snoc (l : List Int) (x : Int) : minL (l ++ [x]) = if l = [] then x else min (minL l) x := by
  cases l with
  | nil => rfl
  | cons y r => simp [minL, List.foldl_append]
theorem maxL_snoc (l : List Int) (x : Int) : maxL (l ++ [x]) = if l = [] then x else max (maxL l) x := by
  cases l with
  | nil => rfl
  | cons y r => simp [maxL, List.foldl_append]
theorem headD_snoc (l : List Int) (x : Int) : (l ++ [x]).headD 0 = if l = [] then x else l.headD 0 := by
  cases l <;> simp
theorem getLastD_snoc (l : List Int) (x : Int) : (l ++ [x]).getLastD 0 = x := by simp [List.getLastD_eq_getLast?]
/-- What is known at the end, by the frictions of the thread that there can be. -/
def lnS (A B : Int → Int) (l : List Int) : LS := ⟨l.headD 0, l.getLastD 0, minL (l.map A), maxL (l.map B), !l.isEmpty⟩
theorem sorted_le : ∀ (x : Int) (n : Nat) (p : Int → Bool) (y : Int), y ∈ (ranI x n).filter p → x ≤ y ∧ y < x + n := by
  intro x n p y hy
  have h1 := (List.mem_filter.1 hy).1
  clear hy
  induction n generalizing x with
  | zero => simp [ranI] at h1
  | succ n ih =>
    rw [ranI] at h1
    rcases List.mem_cons.1 h1 with h | h
    · subst h; push_cast; omega
    · have := ih (x + 1) h; push_cast; omega
theorem outS_law {can : Int → Int → Bool} {A B : Int → Int} {x h0 h1 : Int} (hm : h0 ≤ h1) : ∀ (n : Nat),
    (∀ t, x ≤ t → t < x + n → ((A t ≤ B t → h0 ≤ A t ∧ B t ≤ h1)) ∧ ∀ h, h0 ≤ h → h ≤ h1 → (can t h = true ↔ A t ≤ h ∧ h ≤ B t)) →
    outS can x h0 (h1 - h0 + 1).toNat n = lnS A B ((ranI x n).filter fun t => decide (A t ≤ B t))
  | 0, _ => rfl
  | n + 1, hc => by
    have ih := outS_law hm n (fun t a1 a2 => hc t a1 (by push_cast; omega))
    have ht := hc (x + n) (by omega) (by push_cast; omega)
    rw [outS, ih, ranI_succ, List.filter_append]
    have hsz : ((h1 - h0 + 1).toNat : Int) = h1 - h0 + 1 := by omega
    have hbd := sorted_le x n (fun t => decide (A t ≤ B t))
    generalize (ranI x n).filter (fun t => decide (A t ≤ B t)) = l at *
    generalize hT : x + (n : Int) = T at *
    by_cases hle : A T ≤ B T
    · have hf : [T].filter (fun t => decide (A t ≤ B t)) = [T] := by simp [List.filter, hle]
      rw [hf]
      have hAB := ht.1 hle
      rw [inS_iv (a := A T) (b := B T) hAB.1 _ _ (fun h a1 a2 => ht.2 h a1 (by omega)), hsz]
      have e : min (B T) (h0 + (h1 - h0 + 1) - 1) = B T := by omega
      rw [e]
      unfold ivS lnS
      rw [if_pos hle]
      cases l with
      | nil => simp [minL, maxL]
      | cons y r =>
        have h2 := hbd ((y :: r).getLastD 0) (by rw [List.getLastD_eq_getLast?, List.getLast?_eq_some_getLast (by simp)]; exact List.getLast_mem _)
        have h3 := hbd y (by simp)
        rw [headD_snoc, getLastD_snoc, List.map_append, List.map_append, show [T].map A = [A T] from rfl, show [T].map B = [B T] from rfl, minL_snoc, maxL_snoc]
        have q1 : ((y :: r) ++ [T]).isEmpty = false := by simp
        rw [q1]
        simp only [List.map_cons, reduceCtorEq, if_false, List.isEmpty_cons, Bool.not_false, if_true, LS.mk.injEq, List.headD_cons, true_and, and_true]
        refine ⟨?_, ?_⟩ <;> omega
    · have hf : [T].filter (fun t => decide (A t ≤ B t)) = [] := by simp [List.filter, hle]
      rw [hf, List.append_nil]
      have hno2 : ∀ h, h0 ≤ h → h < h0 + ((h1 - h0 + 1).toNat : Int) → (can T h = true ↔ h1 + 1 ≤ h ∧ h ≤ h1) := by
        intro h a1 a2
        have := ht.2 h a1 (by omega)
        rw [this]
        omega
      rw [inS_iv (a := h1 + 1) (b := h1) (by omega) _ _ hno2]
      unfold ivS
      rw [if_neg (by omega)]
theorem learn_law {ld th hd ot0 ot1 oh0 oh1 st0 st1 sp0 sp1 yi0 yi1 t0 t1 f0 f1 : Int} (bk : BoltOk ld th hd ot0 ot1 oh0 oh1 st0 st1 sp0 sp1 yi0 yi1) (ht : 0 ≤ t0 ∧ t0 ≤ t1 ∧ t1 ≤ 10000000000000) (hf : 0 ≤ f0 ∧ f0 ≤ f1 ∧ f1 ≤ 100000000) :
    outS (fun t h => canB (armV ld th hd t h) t0 t1 f0 f1) ot0 oh0 (oh1 - oh0 + 1).toNat (ot1 - ot0 + 1).toNat =
      lnS (lnA ld th hd oh0 (knA ld th hd ot0 ot1 oh0 oh1 st0 st1 sp0 sp1 yi0 yi1 t0 t1 f0 f1) (knB ld th hd ot0 ot1 oh0 oh1 st0 st1 sp0 sp1 yi0 yi1 t0 t1 f0 f1)) (lnB ld th hd oh1 (knA ld th hd ot0 ot1 oh0 oh1 st0 st1 sp0 sp1 yi0 yi1 t0 t1 f0 f1) (knB ld th hd ot0 ot1 oh0 oh1 st0 st1 sp0 sp1 yi0 yi1 t0 t1 f0 f1)) (lnL ld th hd ot0 ot1 oh0 oh1 st0 st1 sp0 sp1 yi0 yi1 t0 t1 f0 f1) := by
  have ho := bk.ho
  have hp := bk.hp
  have core : ∀ t, ot0 ≤ t → t ≤ ot1 → ∀ h, oh0 ≤ h → h ≤ oh1 → (canB (armV ld th hd t h) t0 t1 f0 f1 = true ↔ lnA ld th hd oh0 (knA ld th hd ot0 ot1 oh0 oh1 st0 st1 sp0 sp1 yi0 yi1 t0 t1 f0 f1) (knB ld th hd ot0 ot1 oh0 oh1 st0 st1 sp0 sp1 yi0 yi1 t0 t1 f0 f1) t ≤ h ∧ h ≤ lnB ld th hd oh1 (knA ld th hd ot0 ot1 oh0 oh1 st0 st1 sp0 sp1 yi0 yi1 t0 t1 f0 f1) (knB ld th hd ot0 ot1 oh0 oh1 st0 st1 sp0 sp1 yi0 yi1 t0 t1 f0 f1) t) := by
    intro t a1 a2 h b1 b2
    have m0 := arm_mono (ld := ld) bk.ht.1 bk.hh.1 a1 b1
    have m1 := arm_mono (ld := ld) bk.ht.1 bk.hh.1 a2 b2
    have ab := arm_bd ld th hd t h bk.hl bk.ht bk.hh (by omega) (by omega)
    rw [can_core ab.1 ⟨m0, m1⟩ ⟨ht.1, ht.2.1⟩ ⟨hf.1, hf.2.1⟩]
    have e : armV ld th hd t h = (1000 * ld + th * t) + hd * h := by unfold armV fricV; omega
    rw [e]
    exact fits_iff bk.hh.1 ⟨b1, b2⟩
  have hin : ∀ t, ot0 ≤ t → t ≤ ot1 → lnA ld th hd oh0 (knA ld th hd ot0 ot1 oh0 oh1 st0 st1 sp0 sp1 yi0 yi1 t0 t1 f0 f1) (knB ld th hd ot0 ot1 oh0 oh1 st0 st1 sp0 sp1 yi0 yi1 t0 t1 f0 f1) t ≤ lnB ld th hd oh1 (knA ld th hd ot0 ot1 oh0 oh1 st0 st1 sp0 sp1 yi0 yi1 t0 t1 f0 f1) (knB ld th hd ot0 ot1 oh0 oh1 st0 st1 sp0 sp1 yi0 yi1 t0 t1 f0 f1) t →
      oh0 ≤ lnA ld th hd oh0 (knA ld th hd ot0 ot1 oh0 oh1 st0 st1 sp0 sp1 yi0 yi1 t0 t1 f0 f1) (knB ld th hd ot0 ot1 oh0 oh1 st0 st1 sp0 sp1 yi0 yi1 t0 t1 f0 f1) t ∧ lnB ld th hd oh1 (knA ld th hd ot0 ot1 oh0 oh1 st0 st1 sp0 sp1 yi0 yi1 t0 t1 f0 f1) (knB ld th hd ot0 ot1 oh0 oh1 st0 st1 sp0 sp1 yi0 yi1 t0 t1 f0 f1) t ≤ oh1 := by
    intro t a1 a2 h
    unfold lnA lnB fiA fiB at *
    by_cases hz : hd = 0
    · rw [if_pos hz, if_pos hz] at h ⊢
      split at h <;> rename_i hc
      · rw [if_pos hc, if_pos hc]; omega
      · omega
    · rw [if_neg hz, if_neg hz]; omega
  have hn : ((ot1 - ot0 + 1).toNat : Int) = ot1 - ot0 + 1 := by omega
  rw [outS_law (A := lnA ld th hd oh0 (knA ld th hd ot0 ot1 oh0 oh1 st0 st1 sp0 sp1 yi0 yi1 t0 t1 f0 f1) (knB ld th hd ot0 ot1 oh0 oh1 st0 st1 sp0 sp1 yi0 yi1 t0 t1 f0 f1)) (B := lnB ld th hd oh1 (knA ld th hd ot0 ot1 oh0 oh1 st0 st1 sp0 sp1 yi0 yi1 t0 t1 f0 f1) (knB ld th hd ot0 ot1 oh0 oh1 st0 st1 sp0 sp1 yi0 yi1 t0 t1 f0 f1)) hp.2.1 _ (fun t a1 a2 => ⟨hin t a1 (by omega), core t a1 (by omega)⟩)]
  unfold lnL
  split
  · rfl
  · rename_i hk
    congr 1
    rw [List.filter_eq_nil_iff]
    intro t htm
    have hb := sorted_le ot0 (ot1 - ot0 + 1).toNat (fun _ => true) t (by simpa using htm)
    rw [decide_eq_true_eq]
    intro hle
    have h1 := hin t hb.1 (by omega) hle
    have h2 := (core t hb.1 (by omega) (lnA ld th hd oh0 (knA ld th hd ot0 ot1 oh0 oh1 st0 st1 sp0 sp1 yi0 yi1 t0 t1 f0 f1) (knB ld th hd ot0 ot1 oh0 oh1 st0 st1 sp0 sp1 yi0 yi1 t0 t1 f0 f1) t) h1.1 (by omega)).2 ⟨by omega, hle⟩
    have m0 := arm_mono (ld := ld) bk.ht.1 bk.hh.1 hb.1 h1.1
    have m1 := arm_mono (ld := ld) bk.ht.1 bk.hh.1 (show t ≤ ot1 by omega) (show lnA ld th hd oh0 (knA ld th hd ot0 ot1 oh0 oh1 st0 st1 sp0 sp1 yi0 yi1 t0 t1 f0 f1) (knB ld th hd ot0 ot1 oh0 oh1 st0 st1 sp0 sp1 yi0 yi1 t0 t1 f0 f1) t ≤ oh1 by omega)
    have ab := arm_bd ld th hd t (lnA ld th hd oh0 (knA ld th hd ot0 ot1 oh0 oh1 st0 st1 sp0 sp1 yi0 yi1 t0 t1 f0 f1) (knB ld th hd ot0 ot1 oh0 oh1 st0 st1 sp0 sp1 yi0 yi1 t0 t1 f0 f1) t) bk.hl bk.ht bk.hh (by omega) (by omega)
    have h3 := (can_core ab.1 ⟨m0, m1⟩ ⟨ht.1, ht.2.1⟩ ⟨hf.1, hf.2.1⟩).1 h2
    exact hk (Int.le_trans h3.1 h3.2)

end Go.Proofs.Ytdhhaglaikdpbaa
