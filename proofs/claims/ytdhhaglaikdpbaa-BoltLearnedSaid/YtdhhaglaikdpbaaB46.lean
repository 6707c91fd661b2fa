/-
  Walks. Conditions: none.
-/
import Derived.Test.YtdhhaglaikdpbaaB43
set_option linter.unusedVariables false
set_option linter.unusedSimpArgs false
namespace Go.Proofs.Ytdhhaglaikdpbaa
open Go.RowKit Go.SL
set_option maxHeartbeats 1000000
set_option maxRecDepth 1000000
theorem foldl_min_le : ∀ (l : List Int) (a : Int), l.foldl min a ≤ a ∧ ∀ x ∈ l, l.foldl min a ≤ x := by
  intro l
  induction l with
  | nil => intro a; exact ⟨Int.le_refl a, by simp⟩
  | cons b r ih =>
    intro a
    have h := ih (min a b)
    refine ⟨by have := h.1; simp only [List.foldl_cons]; omega, fun x hx => ?_⟩
    simp only [List.foldl_cons]
    rcases List.mem_cons.1 hx with rfl | hx
    · have := h.1; omega
    · exact h.2 x hx
theorem minL_le {l : List Int} {x : Int} (hx : x ∈ l) : minL l ≤ x := by
  cases l with
  | nil => cases hx
  | cons a r =>
    have h := foldl_min_le r a
    rcases List.mem_cons.1 hx with rfl | hx
    · exact h.1
    · exact h.2 x hx
theorem foldl_max_le : ∀ (l : List Int) (a : Int), a ≤ l.foldl max a ∧ ∀ x ∈ l, x ≤ l.foldl max a := by
  intro l
  induction l with
  | nil => intro a; exact ⟨Int.le_refl a, by simp⟩
  | cons b r ih =>
    intro a
    have h := ih (max a b)
    refine ⟨by have := h.1; simp only [List.foldl_cons]; omega, fun x hx => ?_⟩
    simp only [List.foldl_cons]
    rcases List.mem_cons.1 hx with rfl | hx
    · have := h.1; omega
    · exact h.2 x hx
theorem maxL_le {l : List Int} {x : Int} (hx : x ∈ l) : x ≤ maxL l := by
  cases l with
  | nil => cases hx
  | cons a r =>
    have h := foldl_max_le r a
    rcases List.mem_cons.1 hx with rfl | hx
    · exact h.1
    · exact h.2 x hx
theorem le_foldl_min : ∀ (l : List Int) (a m : Int), m ≤ a → (∀ x ∈ l, m ≤ x) → m ≤ l.foldl min a := by
  intro l
  induction l with
  | nil => intro a m h _; exact h
  | cons b r ih => intro a m h h2; exact ih _ _ (by have := h2 b (by simp); omega) fun x hx => h2 x (by simp [hx])
theorem foldl_max_le' : ∀ (l : List Int) (a m : Int), a ≤ m → (∀ x ∈ l, x ≤ m) → l.foldl max a ≤ m := by
  intro l
  induction l with
  | nil => intro a m h _; exact h
  | cons b r ih => intro a m h h2; exact ih _ _ (by have := h2 b (by simp); omega) fun x hx => h2 x (by simp [hx])
theorem le_minL {l : List Int} {m x : Int} (hx : x ∈ l) (h : ∀ x ∈ l, m ≤ x) : m ≤ minL l := by
  cases l with
  | nil => cases hx
  | cons a r => exact le_foldl_min r a m (h a (by simp)) fun y hy => h y (by simp [hy])
theorem maxL_le' {l : List Int} {m x : Int} (hx : x ∈ l) (h : ∀ x ∈ l, x ≤ m) : maxL l ≤ m := by
  cases l with
  | nil => cases hx
  | cons a r => exact foldl_max_le' r a m (h a (by simp)) fun y hy => h y (by simp [hy])
theorem ranI_mem {x : Int} : ∀ {n : Nat} {a : Int}, x ∈ ranI a n ↔ a ≤ x ∧ x < a + n := by
  intro n
  induction n with
  | zero => intro a; simp only [ranI, List.not_mem_nil, false_iff]; omega
  | succ n ih => intro a; rw [ranI, List.mem_cons, ih]; push_cast; omega
theorem ranI_pw : ∀ (n : Nat) (a : Int), (ranI a n).Pairwise (· < ·) := by
  intro n
  induction n with
  | zero => intro a; exact List.Pairwise.nil
  | succ n ih => intro a; rw [ranI]; exact List.Pairwise.cons (fun x hx => by have := ranI_mem.1 hx; omega) (ih _)
theorem pw_head {l : List Int} (h : l.Pairwise (· < ·)) {x : Int} (hx : x ∈ l) : l.headD 0 ≤ x ∧ l.headD 0 ∈ l := by
  cases l with
  | nil => cases hx
  | cons a r =>
    refine ⟨?_, by simp⟩
    rcases List.mem_cons.1 hx with rfl | hx
    · exact Int.le_refl _
    · exact Int.le_of_lt (List.rel_of_pairwise_cons h hx)
theorem pw_last' : ∀ (l : List Int) (a : Int), (a :: l).Pairwise (· < ·) → (∀ x ∈ a :: l, x ≤ l.getLastD a) ∧ l.getLastD a ∈ a :: l := by
  intro l
  induction l with
  | nil => intro a _; simp
  | cons b r ih =>
    intro a h
    have h2 := ih b (List.pairwise_cons.1 h).2
    rw [List.getLastD_cons]
    refine ⟨fun x hx => ?_, List.mem_cons_of_mem _ h2.2⟩
    rcases List.mem_cons.1 hx with rfl | hx
    · have h3 : x < b := List.rel_of_pairwise_cons h (by simp)
      have := h2.1 b (by simp)
      omega
    · exact h2.1 x hx
theorem pw_last {l : List Int} (h : l.Pairwise (· < ·)) {x : Int} (hx : x ∈ l) : x ≤ l.getLastD 0 ∧ l.getLastD 0 ∈ l := by
  cases l with
  | nil => cases hx
  | cons a r => have := pw_last' r a h; rw [List.getLastD_cons]; exact ⟨this.1 x hx, this.2⟩
theorem lnA_le {ld th hd oh0 oh1 A0 A1 t h : Int} (hd0 : 0 ≤ hd) (hh : oh0 ≤ h ∧ h ≤ oh1) (h0 : A0 ≤ armV ld th hd t h) (h1 : armV ld th hd t h ≤ A1) :
    lnA ld th hd oh0 A0 A1 t ≤ h ∧ h ≤ lnB ld th hd oh1 A0 A1 t := by
  unfold armV fricV at h0 h1
  unfold lnA lnB fiA fiB
  by_cases hz : hd = 0
  · subst hz
    simp only [Int.zero_mul] at h0 h1
    have e : allI A0 A1 [1000 * ld + th * t] = true := by simp only [allI_cons, allI_nil, Bool.and_true, Bool.and_eq_true, decide_eq_true_eq]; omega
    simp only [if_true, e]
    exact hh
  · rw [if_neg hz, if_neg hz]
    have hc : hd * h = h * hd := Int.mul_comm _ _
    generalize th * t = T at *
    have e1 : -h ≤ -(A0 - (1000 * ld + T)) / hd ↔ -h * hd ≤ -(A0 - (1000 * ld + T)) := Int.le_ediv_iff_mul_le (by omega)
    have e2 : h ≤ (A1 - (1000 * ld + T)) / hd ↔ h * hd ≤ A1 - (1000 * ld + T) := Int.le_ediv_iff_mul_le (by omega)
    rw [Int.neg_mul] at e1
    unfold ceilV
    generalize h * hd = m at *
    omega
theorem lnA_in {ld th hd oh0 oh1 A0 A1 t : Int} (h : lnG ld th hd oh0 oh1 A0 A1 t = true) : oh0 ≤ lnA ld th hd oh0 A0 A1 t ∧ lnB ld th hd oh1 A0 A1 t ≤ oh1 := by
  unfold lnG at h
  replace h := of_decide_eq_true h
  unfold lnA lnB fiA fiB at *
  by_cases hz : hd = 0
  · rw [if_pos hz, if_pos hz] at h ⊢
    by_cases e : allI A0 A1 [1000 * ld + th * t] = true
    · rw [if_pos e, if_pos e]; omega
    · rw [if_neg e, if_neg e] at h; omega
  · rw [if_neg hz, if_neg hz]; omega
/-- What is learned holds the truth, and no more than was there. -/
theorem learned_law {ld th hd ot0 ot1 oh0 oh1 st0 st1 sp0 sp1 yi0 yi1 t0 t1 f0 f1 t h q : Int} (bk : BoltOk ld th hd ot0 ot1 oh0 oh1 st0 st1 sp0 sp1 yi0 yi1) (ht : ot0 ≤ t ∧ t ≤ ot1) (hh : oh0 ≤ h ∧ h ≤ oh1) (hq : t0 ≤ q ∧ q ≤ t1) (h0 : 0 ≤ t0) (hf0 : 0 ≤ f0) (hf : f0 ≤ endT (armV ld th hd t h) q ∧ endT (armV ld th hd t h) q ≤ f1) :
    (lnL ld th hd ot0 ot1 oh0 oh1 st0 st1 sp0 sp1 yi0 yi1 t0 t1 f0 f1).isEmpty = false ∧ (ot0 ≤ (lnL ld th hd ot0 ot1 oh0 oh1 st0 st1 sp0 sp1 yi0 yi1 t0 t1 f0 f1).headD 0 ∧ (lnL ld th hd ot0 ot1 oh0 oh1 st0 st1 sp0 sp1 yi0 yi1 t0 t1 f0 f1).headD 0 ≤ t ∧ t ≤ (lnL ld th hd ot0 ot1 oh0 oh1 st0 st1 sp0 sp1 yi0 yi1 t0 t1 f0 f1).getLastD 0 ∧ (lnL ld th hd ot0 ot1 oh0 oh1 st0 st1 sp0 sp1 yi0 yi1 t0 t1 f0 f1).getLastD 0 ≤ ot1)
    ∧ oh0 ≤ minL ((lnL ld th hd ot0 ot1 oh0 oh1 st0 st1 sp0 sp1 yi0 yi1 t0 t1 f0 f1).map (lnA ld th hd oh0 (knA ld th hd ot0 ot1 oh0 oh1 st0 st1 sp0 sp1 yi0 yi1 t0 t1 f0 f1) (knB ld th hd ot0 ot1 oh0 oh1 st0 st1 sp0 sp1 yi0 yi1 t0 t1 f0 f1))) ∧ minL ((lnL ld th hd ot0 ot1 oh0 oh1 st0 st1 sp0 sp1 yi0 yi1 t0 t1 f0 f1).map (lnA ld th hd oh0 (knA ld th hd ot0 ot1 oh0 oh1 st0 st1 sp0 sp1 yi0 yi1 t0 t1 f0 f1) (knB ld th hd ot0 ot1 oh0 oh1 st0 st1 sp0 sp1 yi0 yi1 t0 t1 f0 f1))) ≤ h
    ∧ h ≤ maxL ((lnL ld th hd ot0 ot1 oh0 oh1 st0 st1 sp0 sp1 yi0 yi1 t0 t1 f0 f1).map (lnB ld th hd oh1 (knA ld th hd ot0 ot1 oh0 oh1 st0 st1 sp0 sp1 yi0 yi1 t0 t1 f0 f1) (knB ld th hd ot0 ot1 oh0 oh1 st0 st1 sp0 sp1 yi0 yi1 t0 t1 f0 f1))) ∧ maxL ((lnL ld th hd ot0 ot1 oh0 oh1 st0 st1 sp0 sp1 yi0 yi1 t0 t1 f0 f1).map (lnB ld th hd oh1 (knA ld th hd ot0 ot1 oh0 oh1 st0 st1 sp0 sp1 yi0 yi1 t0 t1 f0 f1) (knB ld th hd ot0 ot1 oh0 oh1 st0 st1 sp0 sp1 yi0 yi1 t0 t1 f0 f1))) ≤ oh1 := by
  have ho := bk.ho
  have hp := bk.hp
  have m0 := arm_mono (ld := ld) bk.ht.1 bk.hh.1 ht.1 hh.1
  have m1 := arm_mono (ld := ld) bk.ht.1 bk.hh.1 ht.2 hh.2
  have ab := arm_bd ld th hd t h bk.hl bk.ht bk.hh (by omega) (by omega)
  have kA : knA ld th hd ot0 ot1 oh0 oh1 st0 st1 sp0 sp1 yi0 yi1 t0 t1 f0 f1 ≤ armV ld th hd t h := by
    unfold knA knLo
    unfold endT at hf
    have e1 : 1000 * q / armV ld th hd t h < f1 + 1 ↔ 1000 * q < (f1 + 1) * armV ld th hd t h := Int.ediv_lt_iff_lt_mul (by omega)
    have e2 : 1000 * t0 / (f1 + 1) < armV ld th hd t h ↔ 1000 * t0 < armV ld th hd t h * (f1 + 1) := Int.ediv_lt_iff_lt_mul (by omega)
    rw [Int.mul_comm (armV ld th hd t h) (f1 + 1)] at e2
    generalize (f1 + 1) * armV ld th hd t h = m at *
    omega
  have kB : armV ld th hd t h ≤ knB ld th hd ot0 ot1 oh0 oh1 st0 st1 sp0 sp1 yi0 yi1 t0 t1 f0 f1 := by
    unfold knB knHi
    unfold endT at hf
    split
    · rename_i hp0
      have e1 : f0 ≤ 1000 * q / armV ld th hd t h ↔ f0 * armV ld th hd t h ≤ 1000 * q := Int.le_ediv_iff_mul_le (by omega)
      have e2 : armV ld th hd t h ≤ 1000 * t1 / f0 ↔ armV ld th hd t h * f0 ≤ 1000 * t1 := Int.le_ediv_iff_mul_le (by omega)
      rw [Int.mul_comm (armV ld th hd t h) f0] at e2
      generalize f0 * armV ld th hd t h = m at *
      omega
    · exact m1
  have hL : lnL ld th hd ot0 ot1 oh0 oh1 st0 st1 sp0 sp1 yi0 yi1 t0 t1 f0 f1 = (ranI ot0 (ot1 - ot0 + 1).toNat).filter (lnG ld th hd oh0 oh1 (knA ld th hd ot0 ot1 oh0 oh1 st0 st1 sp0 sp1 yi0 yi1 t0 t1 f0 f1) (knB ld th hd ot0 ot1 oh0 oh1 st0 st1 sp0 sp1 yi0 yi1 t0 t1 f0 f1)) := by unfold lnL; rw [if_pos (by omega)]
  have hle := lnA_le bk.hh.1 hh kA kB
  have hG : lnG ld th hd oh0 oh1 (knA ld th hd ot0 ot1 oh0 oh1 st0 st1 sp0 sp1 yi0 yi1 t0 t1 f0 f1) (knB ld th hd ot0 ot1 oh0 oh1 st0 st1 sp0 sp1 yi0 yi1 t0 t1 f0 f1) t = true := by unfold lnG; exact decide_eq_true (by omega)
  rw [hL]
  generalize knA ld th hd ot0 ot1 oh0 oh1 st0 st1 sp0 sp1 yi0 yi1 t0 t1 f0 f1 = A0 at *
  generalize knB ld th hd ot0 ot1 oh0 oh1 st0 st1 sp0 sp1 yi0 yi1 t0 t1 f0 f1 = A1 at *
  have pw := (ranI_pw (ot1 - ot0 + 1).toNat ot0).filter (lnG ld th hd oh0 oh1 A0 A1)
  have hin : ∀ x ∈ (ranI ot0 (ot1 - ot0 + 1).toNat).filter (lnG ld th hd oh0 oh1 A0 A1), (ot0 ≤ x ∧ x ≤ ot1) ∧ lnG ld th hd oh0 oh1 A0 A1 x = true := fun x hx => by
    have h1 := List.mem_filter.1 hx
    have h2 := ranI_mem.1 h1.1
    exact ⟨by omega, h1.2⟩
  have htm : t ∈ (ranI ot0 (ot1 - ot0 + 1).toNat).filter (lnG ld th hd oh0 oh1 A0 A1) := List.mem_filter.2 ⟨ranI_mem.2 (by omega), hG⟩
  generalize (ranI ot0 (ot1 - ot0 + 1).toNat).filter (lnG ld th hd oh0 oh1 A0 A1) = L at *
  have p1 := pw_head pw htm
  have p2 := pw_last pw htm
  have p3 := (hin _ p1.2).1
  have p4 := (hin _ p2.2).1
  refine ⟨?_, ⟨p3.1, p1.1, p2.1, p4.2⟩, ?_, ?_, ?_, ?_⟩
  · cases L with
    | nil => cases htm
    | cons a r => rfl
  · refine le_minL (List.mem_map.2 ⟨t, htm, rfl⟩) fun x hx => ?_
    obtain ⟨y, hy, rfl⟩ := List.mem_map.1 hx
    exact (lnA_in (hin y hy).2).1
  · have := minL_le (List.mem_map.2 ⟨t, htm, rfl⟩ : lnA ld th hd oh0 A0 A1 t ∈ L.map (lnA ld th hd oh0 A0 A1)); omega
  · have := maxL_le (List.mem_map.2 ⟨t, htm, rfl⟩ : lnB ld th hd oh1 A0 A1 t ∈ L.map (lnB ld th hd oh1 A0 A1)); omega
  · refine maxL_le' (List.mem_map.2 ⟨t, htm, rfl⟩) fun x hx => ?_
    obtain ⟨y, hy, rfl⟩ := List.mem_map.1 hx
    exact (lnA_in (hin y hy).2).2

end Go.Proofs.Ytdhhaglaikdpbaa
