/-
  Walks. Conditions: none.
-/
import Derived.Test.YtlblahfndlgfmaaG10
import Derived.Test.YtlblahfndlgfmaaF17
set_option linter.unusedVariables false
set_option linter.unusedSimpArgs false
namespace Go.Proofs.Ytlblahfndlgfmaa
open Go.RowKit Go.SL
set_option maxHeartbeats 1000000
set_option maxRecDepth 1000000
theorem goF_zero {le mo : Int} {sh : List Int} {n i : Nat} {f : Nat → Int × Int} (hz : ∀ k, shareV sh n k = 0) (hf : ∀ k, 0 ≤ (f k).1 ∧ 0 ≤ (f k).2) : ∀ j, goF le mo sh n i f j = f
  | 0 => rfl
  | j + 1 => by
    rw [goF]
    by_cases h : j = 0
    · rw [if_pos h]
    · rw [if_neg h, goF_zero hz hf j, hz]
      funext k
      unfold updF lossV
      by_cases hk : k = (i + j) % n
      · rw [if_pos hk, ← hk]
        have := hf k
        refine Prod.ext ?_ ?_ <;> simp only [Int.mul_zero] <;> omega
      · rw [if_neg hk]
theorem pullF_zero {f : Nat → Int × Int} {sh : List Int} {n i : Nat} {g0 g1 : Int} (hz : ∀ k, shareV sh n k = 0) (hg : 0 ≤ g0 ∧ 0 ≤ g1) (hf : ∀ k, 0 ≤ (f k).1 ∧ 0 ≤ (f k).2) : pullF f sh n i g0 g1 = updF f i (max (f i).1 g0, max (f i).2 g1) := by
  unfold pullF
  refine goF_zero hz (fun k => ?_) n
  unfold updF
  have h1 := hf k
  have h2 := hf i
  split
  · dsimp only; omega
  · exact h1
/-- What a round does where nothing is lost. -/
theorem runZ {ld th hd ot0 ot1 oh0 oh1 st0 st1 sp0 sp1 yi0 yi1 tq : Int} {sh : List Int} {n : Nat} (hz : ∀ k, shareV sh n k = 0) (hg : 0 ≤ gA ld th hd ot0 ot1 oh0 oh1 st0 st1 sp0 sp1 yi0 yi1 tq ∧ 0 ≤ gB ld th hd ot0 ot1 oh0 oh1 st0 st1 sp0 sp1 yi0 yi1 tq) : ∀ (xs : List Int) (s : FlSt), (∀ k, s.1 k = (0, 0) ∨ s.1 k = (gA ld th hd ot0 ot1 oh0 oh1 st0 st1 sp0 sp1 yi0 yi1 tq, gB ld th hd ot0 ot1 oh0 oh1 st0 st1 sp0 sp1 yi0 yi1 tq)) →
    (∀ k, (runF ld th hd ot0 ot1 oh0 oh1 st0 st1 sp0 sp1 yi0 yi1 sh n s (ordP xs tq)).1 k = if k ∈ xs.map Int.toNat then (gA ld th hd ot0 ot1 oh0 oh1 st0 st1 sp0 sp1 yi0 yi1 tq, gB ld th hd ot0 ot1 oh0 oh1 st0 st1 sp0 sp1 yi0 yi1 tq) else s.1 k) ∧ (runF ld th hd ot0 ot1 oh0 oh1 st0 st1 sp0 sp1 yi0 yi1 sh n s (ordP xs tq)).2.2 = if xs = [] then s.2.2 else max s.2.2 (gB ld th hd ot0 ot1 oh0 oh1 st0 st1 sp0 sp1 yi0 yi1 tq)
  | [], s, _ => ⟨fun k => by simp [ordP, runF], by simp [ordP, runF]⟩
  | x :: xs, s, h => by
    have nn : ∀ k, 0 ≤ (s.1 k).1 ∧ 0 ≤ (s.1 k).2 := fun k => by rcases h k with e | e <;> rw [e] <;> first | exact hg | exact ⟨Int.le_refl 0, Int.le_refl 0⟩
    have e1 : runF ld th hd ot0 ot1 oh0 oh1 st0 st1 sp0 sp1 yi0 yi1 sh n s (ordP (x :: xs) tq) = runF ld th hd ot0 ot1 oh0 oh1 st0 st1 sp0 sp1 yi0 yi1 sh n (stF ld th hd ot0 ot1 oh0 oh1 st0 st1 sp0 sp1 yi0 yi1 sh n s (x, tq)) (ordP xs tq) := rfl
    have e2 : (stF ld th hd ot0 ot1 oh0 oh1 st0 st1 sp0 sp1 yi0 yi1 sh n s (x, tq)).1 = updF s.1 x.toNat (gA ld th hd ot0 ot1 oh0 oh1 st0 st1 sp0 sp1 yi0 yi1 tq, gB ld th hd ot0 ot1 oh0 oh1 st0 st1 sp0 sp1 yi0 yi1 tq) := by
      unfold stF
      dsimp only
      rw [pullF_zero hz hg nn]
      congr 1
      rcases h x.toNat with e | e <;> rw [e] <;> refine Prod.ext ?_ ?_ <;> dsimp only <;> omega
    have e3 : (stF ld th hd ot0 ot1 oh0 oh1 st0 st1 sp0 sp1 yi0 yi1 sh n s (x, tq)).2.2 = max s.2.2 (gB ld th hd ot0 ot1 oh0 oh1 st0 st1 sp0 sp1 yi0 yi1 tq) := by
      have : (stF ld th hd ot0 ot1 oh0 oh1 st0 st1 sp0 sp1 yi0 yi1 sh n s (x, tq)).2.2 = max s.2.2 ((stF ld th hd ot0 ot1 oh0 oh1 st0 st1 sp0 sp1 yi0 yi1 sh n s (x, tq)).1 x.toNat).2 := rfl
      rw [this, e2]
      unfold updF
      rw [if_pos rfl]
    have ih := runZ hz hg xs (stF ld th hd ot0 ot1 oh0 oh1 st0 st1 sp0 sp1 yi0 yi1 sh n s (x, tq)) (fun k => by
      rw [e2]
      unfold updF
      split
      · exact .inr rfl
      · exact h k)
    rw [e1]
    refine ⟨fun k => ?_, ?_⟩
    · rw [ih.1 k, e2]
      unfold updF
      rw [List.map_cons]
      by_cases hk : k ∈ xs.map Int.toNat
      · rw [if_pos hk, if_pos (List.mem_cons_of_mem _ hk)]
      · rw [if_neg hk]
        by_cases h2 : k = x.toNat
        · rw [if_pos h2, if_pos (by rw [h2]; exact List.mem_cons_self ..)]
        · rw [if_neg h2, if_neg (by rw [List.mem_cons]; rintro (q | q); exact h2 q; exact hk q)]
    · rw [ih.2, e3, if_neg (show ¬ (x :: xs = []) by simp)]
      split <;> omega
theorem tight_all {f : Nat → Int × Int} {n : Nat} {nd g0 g1 : Int} (hn : 1 ≤ n) (h : ∀ k, k < n → f k = (g0, g1)) : tightV f n nd = decide (nd ≤ g0) := by
  unfold tightV
  have e : (List.range n).map f = List.replicate n (g0, g1) := by
    apply List.ext_getElem
    · simp
    · intro i h1 h2
      simp only [List.length_map, List.length_range] at h1
      simp [h i h1]
  rw [e]
  by_cases hlt : nd ≤ g0
  · have : ¬ g0 < nd := by omega
    simp [this, hlt]
  · have : g0 < nd := by omega
    have h0 : n ≠ 0 := by omega
    simp [this, hlt, h0]
/-- A round over all bolts. -/
theorem round_all {ld th hd ot0 ot1 oh0 oh1 st0 st1 sp0 sp1 yi0 yi1 tq nd : Int} {sh : List Int} {n : Nat} {xs : List Int} (hz : ∀ k, shareV sh n k = 0) (hg : 0 ≤ gA ld th hd ot0 ot1 oh0 oh1 st0 st1 sp0 sp1 yi0 yi1 tq ∧ 0 ≤ gB ld th hd ot0 ot1 oh0 oh1 st0 st1 sp0 sp1 yi0 yi1 tq) (hn : 1 ≤ n) (hx : ∀ k, k < n → k ∈ xs.map Int.toNat) :
    tightV (runF ld th hd ot0 ot1 oh0 oh1 st0 st1 sp0 sp1 yi0 yi1 sh n fl0 (ordP xs tq)).1 n nd = decide (nd ≤ gA ld th hd ot0 ot1 oh0 oh1 st0 st1 sp0 sp1 yi0 yi1 tq) ∧ (runF ld th hd ot0 ot1 oh0 oh1 st0 st1 sp0 sp1 yi0 yi1 sh n fl0 (ordP xs tq)).2.2 = gB ld th hd ot0 ot1 oh0 oh1 st0 st1 sp0 sp1 yi0 yi1 tq := by
  have r := runZ (sh := sh) (n := n) hz hg xs fl0 (fun k => .inl rfl)
  refine ⟨tight_all hn fun k hk => by rw [r.1 k, if_pos (hx k hk)], ?_⟩
  rw [r.2, if_neg (by rintro rfl; have := hx 0 (by omega); cases this)]
  show max 0 _ = _
  omega
theorem rndP_ord (n : Nat) (tq : Int) : rndP n tq = ordP ((List.range n).map fun (i : Nat) => (i : Int)) tq := by
  unfold rndP ordP
  rw [List.map_map]
  rfl
theorem rnd_mem {n : Nat} : ∀ k, k < n → k ∈ ((List.range n).map fun (i : Nat) => (i : Int)).map Int.toNat := fun k hk => by
  rw [List.map_map]
  exact List.mem_map.2 ⟨k, List.mem_range.2 hk, by simp⟩
/-- The law's order. -/
def ordL (n : Nat) : List Int := (List.range n).map fun (i : Nat) => ((i * (n - 1) % n : Nat) : Int)
theorem ordL_len (n : Nat) : (ordL n).length = n := by unfold ordL; rw [List.length_map, List.length_range]
theorem ordL_get {n j : Nat} (h : j < n) : (ordL n)[j]? = some ((j * (n - 1) % n : Nat) : Int) := by
  unfold ordL
  rw [List.getElem?_map, List.getElem?_range h]
  rfl
theorem ordL_bd {n : Nat} (hn : 1 ≤ n) : ∀ x ∈ ordL n, 0 ≤ x ∧ x < n := fun x hx => by
  unfold ordL at hx
  obtain ⟨i, _, rfl⟩ := List.mem_map.1 hx
  have := Nat.mod_lt (i * (n - 1)) (show n > 0 by omega)
  omega
theorem ordL_ok {n : Nat} (h : 3 ≤ n ∧ n ≤ 8) : Ordr n (ordL n) ∧ ∀ k, k < n → k ∈ (ordL n).map Int.toNat := by
  obtain rfl | rfl | rfl | rfl | rfl | rfl : n = 3 ∨ n = 4 ∨ n = 5 ∨ n = 6 ∨ n = 7 ∨ n = 8 := by omega
  all_goals
    refine ⟨⟨rfl, by decide, fun i hi => ?_⟩, by decide⟩
    obtain rfl | rfl | rfl | rfl | rfl | rfl | rfl : i = 0 ∨ i = 1 ∨ i = 2 ∨ i = 3 ∨ i = 4 ∨ i = 5 ∨ i = 6 := by omega
    all_goals first | decide | omega
theorem zero_share {m n : Nat} : ∀ k, shareV (List.replicate m 0) n k = 0 := fun k => by
  unfold shareV
  rw [List.getD_eq_getElem?_getD, List.getElem?_replicate]
  split <;> rfl
/-- The torques of one bolt. -/
theorem least_iff {nd arm t : Int} : ceilV (nd * arm) 1000 ≤ t ↔ nd * arm ≤ 1000 * t := by
  unfold ceilV
  generalize nd * arm = x
  omega
theorem need_iff {nd arm t : Int} (ha : 0 < arm) : nd ≤ endT arm t ↔ ceilV (nd * arm) 1000 ≤ t := by
  rw [least_iff]
  unfold endT
  rw [Int.le_ediv_iff_mul_le ha]
theorem yield_iff {y arm t : Int} (ha : 0 < arm) : endT arm t ≤ y ↔ t ≤ ceilV ((y + 1) * arm) 1000 - 1 := by
  have e : endT arm t ≤ y ↔ ¬ (y + 1 ≤ endT arm t) := by omega
  rw [e, need_iff ha]
  omega

end Go.Proofs.Ytlblahfndlgfmaa
