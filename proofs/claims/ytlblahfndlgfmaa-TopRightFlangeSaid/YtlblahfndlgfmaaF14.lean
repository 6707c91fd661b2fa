/-
  Walks. Conditions: none.
-/
import Derived.Test.YtlblahfndlgfmaaF13
set_option linter.unusedVariables false
set_option linter.unusedSimpArgs false
namespace Go.Proofs.Ytlblahfndlgfmaa
open Go.RowKit Go.SL
set_option maxHeartbeats 1000000
set_option maxRecDepth 1000000
theorem wayT_one {tq : Int} (ht : 0 ≤ tq ∧ tq ≤ 10000000000000) : wayB 1 tq tq 0 0 0 0 = true := by
  have e : spB 0 10000000000000 tq tq = true := spB_iff.2 (by omega)
  simp [wayB, noB, e]
theorem gE_zero {ld th hd ot0 ot1 oh0 oh1 st0 st1 sp0 sp1 yi0 yi1 tq : Int} (hv : BoltOk ld th hd ot0 ot1 oh0 oh1 st0 st1 sp0 sp1 yi0 yi1) (ht : 0 ≤ tq ∧ tq ≤ 10000000000000) (hf : endT (armV ld th hd ot0 oh0) tq ≤ 100000000) : gE ld th hd ot0 ot1 oh0 oh1 st0 st1 sp0 sp1 yi0 yi1 tq = 0 := by
  have hz : openV ld th hd ot0 ot1 oh0 oh1 st0 st1 sp0 sp1 yi0 yi1 (!(wayB 1 tq tq 0 0 0 0)) = 0 := by unfold openV; rw [boltB_iff.2 hv, wayT_one ht]; rfl
  have e : FB ld th hd ot0 ot1 oh0 oh1 st0 st1 sp0 sp1 yi0 yi1 1 tq tq 0 0 0 0 = endT (armV ld th hd ot0 oh0) tq := by unfold FB; rw [if_pos hz]; unfold fHi; rw [if_pos rfl]
  unfold gE
  rw [if_pos hz, if_neg (by rw [e]; omega)]
theorem force_g (ro : Addr → Option Value) {ld th hd ot0 ot1 oh0 oh1 st0 st1 sp0 sp1 yi0 yi1 tq : Int} (h : gE ld th hd ot0 ot1 oh0 oh1 st0 st1 sp0 sp1 yi0 yi1 tq = 0) :
    Cr Try.prog 27 #[.agg #[.int .i64 ld, .int .i64 th, .int .i64 hd, .int .i64 ot0, .int .i64 ot1, .int .i64 oh0, .int .i64 oh1, .int .i64 st0, .int .i64 st1, .int .i64 sp0, .int .i64 sp1, .int .i64 yi0, .int .i64 yi1], .agg #[.int .i64 1, .int .i64 tq, .int .i64 tq, .int .i64 0, .int .i64 0, .int .i64 0, .int .i64 0]] ro (.tuple #[.agg #[.int .i64 (gA ld th hd ot0 ot1 oh0 oh1 st0 st1 sp0 sp1 yi0 yi1 tq), .int .i64 (gB ld th hd ot0 ot1 oh0 oh1 st0 st1 sp0 sp1 yi0 yi1 tq)], .int .i64 0]) := by
  have b := g_bd h
  have q := ForceT ro ld th hd ot0 ot1 oh0 oh1 st0 st1 sp0 sp1 yi0 yi1 tq tq b.1 (by omega)
  rw [b.2.2.1, b.2.2.2.1]
  exact q
theorem gE_law {v0 v1 v2 v3 y : Int} (h0 : 0 ≤ v0 ∧ v0 < 256) (h1 : 0 ≤ v1 ∧ v1 < 256) (h2 : 0 ≤ v2 ∧ v2 < 256) (h3 : 0 ≤ v3 ∧ v3 < 256) (hy : 0 ≤ y ∧ y < 256) :
    gE 2000 5000 7000 (50 + v0) (50 + v0 + v1 % 60) (50 + v2) (50 + v2 + v3 % 60) 50000 60000 90 110 30000 33000 (30000000 + 200000 * y) = 0 := by
  refine gE_zero (pubFrict_fit h0 h1 h2 h3) (by omega) ?_
  unfold endT armV fricV
  refine Int.ediv_le_of_le_mul (by omega) (by omega)
theorem allI_of {lo hi : Int} : ∀ {l : List Int}, (∀ x ∈ l, lo ≤ x ∧ x ≤ hi) → allI lo hi l = true
  | [], _ => rfl
  | x :: r, h => by
    have := h x (List.mem_cons_self ..)
    rw [allI_cons, allI_of fun y hy => h y (List.mem_cons_of_mem _ hy), decide_eq_true this.1, decide_eq_true this.2]
    rfl
theorem fcheck_zero {n : Nat} {sh : List Int} {ld th hd ot0 ot1 oh0 oh1 st0 st1 sp0 sp1 yi0 yi1 nd : Int} (hn : 3 ≤ n ∧ n ≤ 12) (hs : ∀ x ∈ sh, 0 ≤ x ∧ x ≤ 500) (hv : BoltOk ld th hd ot0 ot1 oh0 oh1 st0 st1 sp0 sp1 yi0 yi1) (hnd : 0 ≤ nd ∧ nd ≤ 100000000) : fcheckV n (n / 2) sh ld th hd ot0 ot1 oh0 oh1 st0 st1 sp0 sp1 yi0 yi1 nd = 0 := by
  have e1 : allI 3 12 [(n : Int)] = true := allI_of fun x hx => by rw [List.mem_singleton] at hx; omega
  have e2 : ((n / 2 : Nat) : Int) = (n : Int) / 2 := by omega
  have e3 : checkV ld th hd ot0 ot1 oh0 oh1 st0 st1 sp0 sp1 yi0 yi1 = 0 := by unfold checkV; rw [if_pos (boltB_iff.2 hv)]
  have e4 : allI 0 100000000 [nd] = true := allI_of fun x hx => by rw [List.mem_singleton] at hx; omega
  unfold fcheckV
  rw [if_pos e1, if_pos e2, if_pos (allI_of hs), if_pos e3, if_pos e4]
theorem shareV_bd {n : Nat} {sh : List Int} {B : Int} (hB : 0 ≤ B) (hs : ∀ x ∈ sh, 0 ≤ x ∧ x ≤ B) (j : Nat) : 0 ≤ shareV sh n j ∧ shareV sh n j ≤ B := by
  unfold shareV
  rw [List.getD_eq_getElem?_getD]
  cases e : sh[min j (n - j) - 1]? with
  | none => exact ⟨Int.le_refl 0, hB⟩
  | some x => exact hs x (List.mem_of_getElem? e)
/-- The shares of the law. -/
def shL (s0 s1 s2 s3 : Int) (m : Nat) : List Int := [s0 / 4, s1 / 4, s2 / 4, s3 / 4].take m
theorem shL_bd {s0 s1 s2 s3 : Int} {m : Nat} (h0 : 0 ≤ s0 ∧ s0 < 256) (h1 : 0 ≤ s1 ∧ s1 < 256) (h2 : 0 ≤ s2 ∧ s2 < 256) (h3 : 0 ≤ s3 ∧ s3 < 256) : ∀ x ∈ shL s0 s1 s2 s3 m, 0 ≤ x ∧ x ≤ 500 := by
  intro x hx
  have := List.mem_of_mem_take hx
  simp only [List.mem_cons, List.not_mem_nil, or_false] at this
  omega
theorem rndP_len (n : Nat) (tq : Int) : (rndP n tq).length = n := by
  unfold rndP
  rw [List.length_map, List.length_range]
theorem rndP_ok {ld th hd ot0 ot1 oh0 oh1 st0 st1 sp0 sp1 yi0 yi1 tq : Int} {n : Nat} (h : gE ld th hd ot0 ot1 oh0 oh1 st0 st1 sp0 sp1 yi0 yi1 tq = 0) : ∀ p ∈ rndP n tq, okSt ld th hd ot0 ot1 oh0 oh1 st0 st1 sp0 sp1 yi0 yi1 n p := by
  intro p hp
  unfold rndP at hp
  obtain ⟨i, hi, rfl⟩ := List.mem_map.1 hp
  have := List.mem_range.1 hi
  exact ⟨by dsimp only; omega, h⟩
/-- The law's two steps of the document's example. -/
theorem pub_run : (runF 2000 5000 7000 100 160 120 150 50000 60000 90 110 30000 33000 [200, 100] 4 fl0 [(0, 66800000), (1, 66800000)]).1 0 = (13350, 16530) ∧
    (runF 2000 5000 7000 100 160 120 150 50000 60000 90 110 30000 33000 [200, 100] 4 fl0 [(0, 66800000), (1, 66800000)]).1 1 = (17350, 20000) ∧
    (runF 2000 5000 7000 100 160 120 150 50000 60000 90 110 30000 33000 [200, 100] 4 fl0 [(0, 66800000), (1, 66800000)]).2.2 = 20000 := by
  decide

end Go.Proofs.Ytlblahfndlgfmaa
