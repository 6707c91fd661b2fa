/-
  Walks. Conditions: none.
-/
import Derived.Test.YtlbpfmnobapidaaD8
set_option linter.unusedVariables false
set_option linter.unusedSimpArgs false
namespace Go.Proofs.Ytlbpfmnobapidaa
open Go.RowKit Go.SL
set_option maxHeartbeats 1000000
set_option maxRecDepth 1000000
def fN (os : List Ord) (i : Nat) : Nat := ((os.take i).map fun o => o.pc.toNat).sum
theorem fN_zero (os : List Ord) : fN os 0 = 0 := by simp [fN]
theorem fN_succ {os : List Ord} {i : Nat} {o : Ord} (h : os[i]? = some o) : fN os (i + 1) = fN os i + o.pc.toNat := by
  unfold fN
  rw [List.take_add_one, h]
  simp
theorem fN_cons (o : Ord) (r : List Ord) (i : Nat) : fN (o :: r) (i + 1) = o.pc.toNat + fN r i := by simp [fN]
theorem fN_fst {nw : Nat} {os : List Ord} (h : OrdsOk nw os) : ∀ i, i ≤ os.length → (fN os i : Int) = fstV os i
  | 0, _ => by rw [fN_zero, fstV_zero]; rfl
  | i + 1, hi => by
    have ih := fN_fst h i (by omega)
    have hx : os[i]? = some os[i] := List.getElem?_eq_getElem (by omega)
    have b := h.pc _ (List.getElem_mem (by omega : i < os.length))
    rw [fN_succ hx, fstV_succ hx]
    omega
theorem fN_lt {nw : Nat} {os : List Ord} (h : OrdsOk nw os) {i : Nat} (hi : i < os.length) : fN os i < fN os (i + 1) := by
  have hx : os[i]? = some os[i] := List.getElem?_eq_getElem hi
  have b := h.pc _ (List.getElem_mem hi)
  rw [fN_succ hx]
  omega
/-- The order of a piece. -/
def ordP : List Ord → Nat → Ord
  | [], _ => default
  | o :: r, p => if p < o.pc.toNat then o else ordP r (p - o.pc.toNat)
theorem ordP_at : ∀ {os : List Ord} {i p : Nat}, i < os.length → fN os i ≤ p → p < fN os (i + 1) → ordP os p = ordAt os i
  | [], i, p, h, _, _ => by simp at h
  | o :: r, 0, p, h, h1, h2 => by
    rw [fN_cons, fN_zero] at h2
    rw [ordP, if_pos (by omega)]
    rfl
  | o :: r, i + 1, p, h, h1, h2 => by
    rw [fN_cons] at h1 h2
    rw [ordP, if_neg (by omega), ordP_at (os := r) (i := i) (by simpa using h) (by omega) (by omega)]
    rfl
theorem ordP_mem : ∀ {os : List Ord} {p : Nat}, p < fN os os.length → ordP os p ∈ os
  | [], p, h => by simp [fN] at h
  | o :: r, p, h => by
    rw [List.length_cons, fN_cons] at h
    rw [ordP]
    split
    · simp
    · exact List.mem_cons_of_mem _ (ordP_mem (by omega))
theorem ordP_out : ∀ {os : List Ord} {p : Nat}, fN os os.length ≤ p → ordP os p = default
  | [], p, h => rfl
  | o :: r, p, h => by
    rw [List.length_cons, fN_cons] at h
    rw [ordP, if_neg (by omega)]
    exact ordP_out (by omega)
theorem ordP_st {nw : Nat} {os : List Ord} {ws : List (Int × Int)} (hO : OrdsOk nw os) (hW : WearsOk nw ws) (p : Nat) : 0 ≤ (ordP os p).st ∧ (ordP os p).st < nw := by
  by_cases h : p < fN os os.length
  · exact hO.st _ (ordP_mem h)
  · rw [ordP_out (by omega)]
    have := hW.len
    show 0 ≤ (0 : Int) ∧ (0 : Int) < nw
    omega
/-- By how much all pieces before one wear the tool. -/
def wP (ws : List (Int × Int)) (os : List Ord) : Nat → Int × Int
  | 0 => (0, 0)
  | p + 1 => ((wP ws os p).1 + (wrAt ws (ordP os p).st).1, (wP ws os p).2 + (wrAt ws (ordP os p).st).2)
theorem wP_succ1 (ws : List (Int × Int)) (os : List Ord) (p : Nat) : (wP ws os (p + 1)).1 = (wP ws os p).1 + (wrAt ws (ordP os p).st).1 := rfl
theorem wP_succ2 (ws : List (Int × Int)) (os : List Ord) (p : Nat) : (wP ws os (p + 1)).2 = (wP ws os p).2 + (wrAt ws (ordP os p).st).2 := rfl
theorem wP_seg {os : List Ord} {ws : List (Int × Int)} {i a : Nat} (hi : i < os.length) (h1 : fN os i ≤ a) : ∀ m : Nat, a + m ≤ fN os (i + 1) →
    (wP ws os (a + m)).1 = (wP ws os a).1 + (wrAt ws (ordAt os i).st).1 * m ∧ (wP ws os (a + m)).2 = (wP ws os a).2 + (wrAt ws (ordAt os i).st).2 * m
  | 0, _ => by simp
  | m + 1, h2 => by
    have ih := wP_seg hi h1 (ws := ws) m (by omega)
    rw [← Nat.add_assoc, wP_succ1, wP_succ2, ordP_at hi (by omega) (by omega), ih.1, ih.2]
    push_cast
    rw [Int.mul_add, Int.mul_add, Int.mul_one, Int.mul_one]
    omega
theorem wP_mono {nw : Nat} {os : List Ord} {ws : List (Int × Int)} (hO : OrdsOk nw os) (hW : WearsOk nw ws) {p : Nat} : ∀ {q : Nat}, p ≤ q → (wP ws os p).1 ≤ (wP ws os q).1 ∧ (wP ws os p).2 - (wP ws os p).1 ≤ (wP ws os q).2 - (wP ws os q).1 ∧ (wP ws os p).2 ≤ (wP ws os q).2
  | 0, h => by obtain rfl : p = 0 := by omega
               exact ⟨Int.le_refl _, Int.le_refl _, Int.le_refl _⟩
  | q + 1, h => by
    rcases Nat.lt_or_ge q p with h1 | h1
    · obtain rfl : p = q + 1 := by omega
      exact ⟨Int.le_refl _, Int.le_refl _, Int.le_refl _⟩
    · have ih := wP_mono hO hW (q := q) h1
      have b := wrAt_bd hW (ordP_st hO hW q)
      rw [wP_succ1, wP_succ2]
      omega
/-- How far pieces that were looked at reach, after so many orders. -/
def eI (os : List Ord) (fr to i : Nat) : Nat := max fr (min to (fN os i))
theorem many_eI {nw : Nat} {os : List Ord} (hO : OrdsOk nw os) {fr to i : Nat} (hf : fr ≤ to) (hi : i < os.length) :
    (0 < manyV os fr to i → fN os i ≤ eI os fr to i ∧ eI os fr to (i + 1) ≤ fN os (i + 1) ∧ (eI os fr to (i + 1) : Int) = eI os fr to i + manyV os fr to i) ∧ (manyV os fr to i ≤ 0 → eI os fr to (i + 1) = eI os fr to i) := by
  have e0 := fN_fst hO i (by omega)
  have e1 := fN_fst hO (i + 1) (by omega)
  have lt := fN_lt hO hi
  unfold manyV eI
  rw [← e0, ← e1]
  omega
theorem wear_eI {nw : Nat} {os : List Ord} {ws : List (Int × Int)} (hO : OrdsOk nw os) (hW : WearsOk nw ws) {fr to : Nat} (hf : fr ≤ to) : ∀ i, i ≤ os.length →
    (wearN ws os fr to i).1 = (wP ws os (eI os fr to i)).1 - (wP ws os fr).1 ∧ (wearN ws os fr to i).2 = (wP ws os (eI os fr to i)).2 - (wP ws os fr).2
  | 0, _ => by
    have : eI os fr to 0 = fr := by unfold eI; rw [fN_zero]; omega
    rw [this]
    show (0 : Int) = _ ∧ (0 : Int) = _
    omega
  | i + 1, hi => by
    have ih := wear_eI hO hW hf i (by omega)
    have me := many_eI hO hf (i := i) (by omega)
    rw [wearN]
    by_cases hm : 0 < manyV os fr to i
    · rw [if_pos hm]
      have m1 := me.1 hm
      generalize manyV os fr to i = m at *
      obtain ⟨k, rfl⟩ : ∃ k : Nat, m = k := ⟨m.toNat, by omega⟩
      have ek : eI os fr to (i + 1) = eI os fr to i + k := by omega
      have sg := wP_seg (ws := ws) (a := eI os fr to i) (show i < os.length by omega) m1.1 k (by omega)
      rw [ek, sg.1, sg.2]
      dsimp only
      omega
    · rw [if_neg hm, me.2 (by omega)]
      exact ih
/-- The least and the greatest target with which a piece is sure. -/
def lowP (s0 c0 : Int) (ws : List (Int × Int)) (os : List Ord) (fr p : Nat) : Int := (ordP os p).z0 - (s0 + c0) - ((wP ws os p).1 - (wP ws os fr).1)
def highP (s1 c1 : Int) (ws : List (Int × Int)) (os : List Ord) (fr p : Nat) : Int := (ordP os p).z1 - (s1 + c1) - ((wP ws os p).2 - (wP ws os fr).2)
theorem seg_bd {nw : Nat} {s0 s1 c0 c1 : Int} {os : List Ord} {ws : List (Int × Int)} (hO : OrdsOk nw os) (hW : WearsOk nw ws) {fr i a m : Nat} (hi : i < os.length) (h1 : fN os i ≤ a) (h2 : a + m ≤ fN os (i + 1)) (hm : 0 < m) (x : Int) :
    ((ordAt os i).z0 - (s0 + c0) - ((wP ws os a).1 - (wP ws os fr).1) ≤ x ↔ ∀ p, a ≤ p → p < a + m → lowP s0 c0 ws os fr p ≤ x) ∧
    (x ≤ (ordAt os i).z1 - (s1 + c1) - ((wP ws os a).2 - (wP ws os fr).2) - (wrAt ws (ordAt os i).st).2 * ((m : Int) - 1) ↔ ∀ p, a ≤ p → p < a + m → x ≤ highP s1 c1 ws os fr p) := by
  have st : 0 ≤ (ordAt os i).st ∧ (ordAt os i).st < nw := by
    have hx : os[i]? = some os[i] := List.getElem?_eq_getElem hi
    rw [ordAt_eq hx]
    exact hO.st _ (List.getElem_mem hi)
  have wb := wrAt_bd hW st
  have at_ : ∀ k, k < m → lowP s0 c0 ws os fr (a + k) = (ordAt os i).z0 - (s0 + c0) - ((wP ws os a).1 + (wrAt ws (ordAt os i).st).1 * k - (wP ws os fr).1) ∧ highP s1 c1 ws os fr (a + k) = (ordAt os i).z1 - (s1 + c1) - ((wP ws os a).2 + (wrAt ws (ordAt os i).st).2 * k - (wP ws os fr).2) := fun k hk => by
    have sg := wP_seg (ws := ws) hi h1 k (by omega)
    unfold lowP highP
    rw [ordP_at hi (by omega) (by omega), sg.1, sg.2]
    exact ⟨rfl, rfl⟩
  generalize wrAt ws (ordAt os i).st = w at *
  constructor
  · constructor
    · intro h p hp1 hp2
      obtain ⟨k, rfl⟩ : ∃ k, p = a + k := ⟨p - a, by omega⟩
      rw [(at_ k (by omega)).1]
      have := Int.mul_nonneg wb.1 (show (0 : Int) ≤ (k : Int) by omega)
      omega
    · intro h
      have := h (a + 0) (by omega) (by omega)
      rw [(at_ 0 hm).1] at this
      simpa using this
  · constructor
    · intro h p hp1 hp2
      obtain ⟨k, rfl⟩ : ∃ k, p = a + k := ⟨p - a, by omega⟩
      rw [(at_ k (by omega)).2]
      have : w.2 * (k : Int) ≤ w.2 * ((m : Int) - 1) := Int.mul_le_mul_of_nonneg_left (by omega) (by omega)
      omega
    · intro h
      have := h (a + (m - 1)) (by omega) (by omega)
      rw [(at_ (m - 1) (by omega)).2] at this
      have e : ((m - 1 : Nat) : Int) = (m : Int) - 1 := by omega
      rw [e] at this
      omega
theorem tg_eI {nw : Nat} {s0 s1 c0 c1 : Int} {os : List Ord} {ws : List (Int × Int)} (hO : OrdsOk nw os) (hW : WearsOk nw ws) {fr to : Nat} (hf : fr ≤ to) : ∀ i, i ≤ os.length →
    (tgN s0 s1 c0 c1 ws os fr to i).2.2 = decide (fr < eI os fr to i) ∧ (fr < eI os fr to i →
      ∀ x, ((tgN s0 s1 c0 c1 ws os fr to i).1 ≤ x ↔ ∀ p, fr ≤ p → p < eI os fr to i → lowP s0 c0 ws os fr p ≤ x) ∧ (x ≤ (tgN s0 s1 c0 c1 ws os fr to i).2.1 ↔ ∀ p, fr ≤ p → p < eI os fr to i → x ≤ highP s1 c1 ws os fr p))
  | 0, _ => by
    have : eI os fr to 0 = fr := by unfold eI; rw [fN_zero]; omega
    rw [this]
    exact ⟨by simp [tgN], fun h => absurd h (by omega)⟩
  | i + 1, hi => by
    have ih := tg_eI (s0 := s0) (s1 := s1) (c0 := c0) (c1 := c1) hO hW hf i (by omega)
    have me := many_eI hO hf (i := i) (by omega)
    have we := wear_eI hO hW hf i (by omega)
    have ge : fr ≤ eI os fr to i := by unfold eI; omega
    rw [tgN]
    by_cases hm : 0 < manyV os fr to i
    · rw [if_pos hm]
      have m1 := me.1 hm
      have sg := fun x => seg_bd (s0 := s0) (s1 := s1) (c0 := c0) (c1 := c1) hO hW (fr := fr) (a := eI os fr to i) (m := (manyV os fr to i).toNat) (show i < os.length by omega) m1.1 (by omega) (by omega) x
      have ex : tgX s0 s1 c0 c1 ws os fr to i = ((ordAt os i).z0 - (s0 + c0) - ((wP ws os (eI os fr to i)).1 - (wP ws os fr).1), (ordAt os i).z1 - (s1 + c1) - ((wP ws os (eI os fr to i)).2 - (wP ws os fr).2) - (wrAt ws (ordAt os i).st).2 * (((manyV os fr to i).toNat : Int) - 1)) := by
        unfold tgX
        rw [we.1, we.2, Int.toNat_of_nonneg (by omega)]
      rw [ex]
      have ek : eI os fr to (i + 1) = eI os fr to i + (manyV os fr to i).toNat := by omega
      have hpos : 0 < (manyV os fr to i).toNat := by omega
      rw [ek]
      generalize (manyV os fr to i).toNat = m at *
      generalize eI os fr to i = a at *
      generalize (ordAt os i).z0 - (s0 + c0) - ((wP ws os a).1 - (wP ws os fr).1) = xl at *
      generalize (ordAt os i).z1 - (s1 + c1) - ((wP ws os a).2 - (wP ws os fr).2) - (wrAt ws (ordAt os i).st).2 * ((m : Int) - 1) = xh at *
      generalize tgN s0 s1 c0 c1 ws os fr to i = tg at *
      by_cases hb : fr < a
      · rw [ih.1, if_pos (by simpa using hb)]
        refine ⟨by simp; omega, fun _ x => ?_⟩
        have ih2 := ih.2 hb x
        have sg2 := sg x
        dsimp only
        constructor
        · rw [show (max tg.1 xl ≤ x) ↔ (tg.1 ≤ x ∧ xl ≤ x) from by omega, ih2.1, sg2.1]
          constructor
          · rintro ⟨q1, q2⟩ p p1 p2
            by_cases hpa : p < a
            · exact q1 p p1 hpa
            · exact q2 p (by omega) p2
          · intro q
            exact ⟨fun p p1 p2 => q p p1 (by omega), fun p p1 p2 => q p (by omega) p2⟩
        · rw [show (x ≤ min tg.2.1 xh) ↔ (x ≤ tg.2.1 ∧ x ≤ xh) from by omega, ih2.2, sg2.2]
          constructor
          · rintro ⟨q1, q2⟩ p p1 p2
            by_cases hpa : p < a
            · exact q1 p p1 hpa
            · exact q2 p (by omega) p2
          · intro q
            exact ⟨fun p p1 p2 => q p p1 (by omega), fun p p1 p2 => q p (by omega) p2⟩
      · obtain rfl : fr = a := by omega
        rw [ih.1, if_neg (by simp)]
        refine ⟨by simp; omega, fun _ x => ?_⟩
        exact sg x
    · rw [if_neg hm, me.2 (by omega)]
      exact ih
theorem eI_len {os : List Ord} {fr to : Nat} (hf : fr ≤ to) (ht : to ≤ fN os os.length) : eI os fr to os.length = to := by unfold eI; omega
/-- The targets, piece by piece. -/
theorem tgF_iff {nw : Nat} {s0 s1 c0 c1 : Int} {os : List Ord} {ws : List (Int × Int)} (hO : OrdsOk nw os) (hW : WearsOk nw ws) {fr to : Nat} (hf : fr < to) (ht : to ≤ fN os os.length) (x : Int) :
    ((tgF s0 s1 c0 c1 ws os fr to).1 ≤ x ↔ ∀ p, fr ≤ p → p < to → lowP s0 c0 ws os fr p ≤ x) ∧ (x ≤ (tgF s0 s1 c0 c1 ws os fr to).2 ↔ ∀ p, fr ≤ p → p < to → x ≤ highP s1 c1 ws os fr p) := by
  have h := tg_eI (s0 := s0) (s1 := s1) (c0 := c0) (c1 := c1) hO hW (fr := fr) (to := to) (by omega) os.length (Nat.le_refl _)
  rw [eI_len (by omega) ht] at h
  exact h.2 hf x
theorem wear_eq {nw : Nat} {os : List Ord} {ws : List (Int × Int)} (hO : OrdsOk nw os) (hW : WearsOk nw ws) {fr to : Nat} (hf : fr ≤ to) (ht : to ≤ fN os os.length) :
    (wearN ws os fr to os.length).1 = (wP ws os to).1 - (wP ws os fr).1 ∧ (wearN ws os fr to os.length).2 = (wP ws os to).2 - (wP ws os fr).2 := by
  have h := wear_eI hO hW (fr := fr) (to := to) hf os.length (Nat.le_refl _)
  rwa [eI_len hf ht] at h
theorem can_iff {nw : Nat} {s0 s1 c0 c1 : Int} {os : List Ord} {ws : List (Int × Int)} (hO : OrdsOk nw os) (hW : WearsOk nw ws) {fr to : Nat} (hf : fr < to) (ht : to ≤ fN os os.length) :
    canV s0 s1 c0 c1 ws os fr to = true ↔ ∀ p q, fr ≤ p → p < to → fr ≤ q → q < to → lowP s0 c0 ws os fr p ≤ highP s1 c1 ws os fr q := by
  unfold canV
  rw [decide_eq_true_eq, (tgF_iff hO hW hf ht _).1]
  constructor
  · intro h p q p1 p2 q1 q2
    exact ((tgF_iff hO hW hf ht _).2.1 (h p p1 p2)) q q1 q2
  · intro h p p1 p2
    exact (tgF_iff hO hW hf ht _).2.2 fun q q1 q2 => h p q p1 p2 q1 q2
/-- With fewer pieces, from a later one on, there still is a target. -/
theorem can_sub {nw : Nat} {s0 s1 c0 c1 : Int} {os : List Ord} {ws : List (Int × Int)} (hO : OrdsOk nw os) (hW : WearsOk nw ws) {fr to fr' to' : Nat} (h1 : fr ≤ fr') (h2 : fr' < to') (h3 : to' ≤ to) (ht : to ≤ fN os os.length) (hc : canV s0 s1 c0 c1 ws os fr to = true) : canV s0 s1 c0 c1 ws os fr' to' = true := by
  rw [can_iff hO hW (by omega) ht] at hc
  rw [can_iff hO hW h2 (by omega)]
  intro p q p1 p2 q1 q2
  have := hc p q (by omega) (by omega) (by omega) (by omega)
  have mo := wP_mono hO hW (p := fr) (q := fr') h1
  unfold lowP highP at *
  omega

end Go.Proofs.Ytlbpfmnobapidaa
