/-
  Walks. Conditions: none.
-/
import Derived.Test.YtdhhaglaikdpbaaB34
import Derived.Test.YtdhhaglaikdpbaaS18
set_option linter.unusedVariables false
set_option linter.unusedSimpArgs false
namespace Go.Proofs.Ytdhhaglaikdpbaa
open Go.RowKit Go.SL
set_option maxHeartbeats 1000000
set_option maxRecDepth 1000000
structure NarOk (ot0 ot1 oh0 oh1 st0 st1 sp0 sp1 yi0 yi1 ct0 ct1 ch0 ch1 cs0 cs1 cp0 cp1 cy0 cy1 : Int) : Prop where
  o : ot0 ≤ ct0 ∧ ct0 ≤ ct1 ∧ ct1 ≤ ot1
  h : oh0 ≤ ch0 ∧ ch0 ≤ ch1 ∧ ch1 ≤ oh1
  s : st0 ≤ cs0 ∧ cs0 ≤ cs1 ∧ cs1 ≤ st1
  r : sp0 ≤ cp0 ∧ cp0 ≤ cp1 ∧ cp1 ≤ sp1
  y : yi0 ≤ cy0 ∧ cy0 ≤ cy1 ∧ cy1 ≤ yi1
theorem nar_bolt {ld th hd ot0 ot1 oh0 oh1 st0 st1 sp0 sp1 yi0 yi1 ct0 ct1 ch0 ch1 cs0 cs1 cp0 cp1 cy0 cy1 : Int} (bk : BoltOk ld th hd ot0 ot1 oh0 oh1 st0 st1 sp0 sp1 yi0 yi1) (n : NarOk ot0 ot1 oh0 oh1 st0 st1 sp0 sp1 yi0 yi1 ct0 ct1 ch0 ch1 cs0 cs1 cp0 cp1 cy0 cy1) : BoltOk ld th hd ct0 ct1 ch0 ch1 cs0 cs1 cp0 cp1 cy0 cy1 := by
  have a1 := n.o
  have a2 := n.h
  have a3 := n.s
  have a4 := n.r
  have a5 := n.y
  have b1 := bk.ho
  have b2 := bk.hp
  have b3 := bk.hs
  have b4 := bk.hr
  have b5 := bk.hy
  exact ⟨bk.hl, bk.ht, bk.hh, by omega, by omega, by omega, by omega, by omega⟩
theorem nar_force {ld th hd ot0 ot1 oh0 oh1 st0 st1 sp0 sp1 yi0 yi1 ct0 ct1 ch0 ch1 cs0 cs1 cp0 cp1 cy0 cy1 k t0 t1 a0 a1 s0 s1 : Int} (bk : BoltOk ld th hd ot0 ot1 oh0 oh1 st0 st1 sp0 sp1 yi0 yi1) (n : NarOk ot0 ot1 oh0 oh1 st0 st1 sp0 sp1 yi0 yi1 ct0 ct1 ch0 ch1 cs0 cs1 cp0 cp1 cy0 cy1) (hw : wayB k t0 t1 a0 a1 s0 s1 = true) :
    fLo ld th hd ot0 ot1 oh0 oh1 st0 st1 sp0 sp1 yi0 yi1 k t0 t1 a0 a1 s0 s1 ≤ fLo ld th hd ct0 ct1 ch0 ch1 cs0 cs1 cp0 cp1 cy0 cy1 k t0 t1 a0 a1 s0 s1 ∧ fHi ld th hd ct0 ct1 ch0 ch1 cs0 cs1 cp0 cp1 cy0 cy1 k t0 t1 a0 a1 s0 s1 ≤ fHi ld th hd ot0 ot1 oh0 oh1 st0 st1 sp0 sp1 yi0 yi1 k t0 t1 a0 a1 s0 s1 := by
  have ck := nar_bolt bk n
  have ho := ck.ho
  have hp := ck.hp
  have hs := bk.hs
  have hr := bk.hr
  have bo := bk.ho
  have bp := bk.hp
  have m0 := arm_mono (ld := ld) bk.ht.1 bk.hh.1 n.o.1 n.h.1
  have m1 := arm_mono (ld := ld) bk.ht.1 bk.hh.1 n.o.2.2 n.h.2.2
  have b0 := arm_bd ld th hd ot0 oh0 bk.hl bk.ht bk.hh (by omega) (by omega)
  have b1 := arm_bd ld th hd ct1 ch1 bk.hl bk.ht bk.hh (by omega) (by omega)
  have ns := n.s
  have nr := n.r
  unfold fLo fHi
  rcases way_cases hw with ⟨rfl, q1, rfl, rfl, rfl, rfl⟩ | ⟨rfl, q1, q2, rfl, rfl⟩ | ⟨rfl, q1, rfl, rfl, rfl, rfl⟩
  · simp only [if_true]
    exact ⟨endT_mono (by omega) m1 (by omega) (by omega), endT_mono (by omega) m0 (by omega) (by omega)⟩
  · simp only [show ¬ ((2 : Int) = 1) by decide, if_false, if_true]
    exact ⟨endA_mono (by omega) (by assumption) (by omega) (by omega) (by omega) (by omega) (by omega) (by omega), endA_mono (by omega) (by assumption) (by omega) (by omega) (by omega) (by omega) (by omega) (by omega)⟩
  · simp only [show ¬ ((3 : Int) = 1) by decide, show ¬ ((3 : Int) = 2) by decide, if_false]
    exact ⟨mul_mono (by omega) (by omega) (by omega) (by omega), mul_mono (by omega) (by omega) (by omega) (by omega)⟩
theorem ceil_mono {a b : Int} (h : a ≤ b) : ceilV a 1000 ≤ ceilV b 1000 := by unfold ceilV; omega
theorem nar_lm {ld th hd ot0 ot1 oh0 oh1 st0 st1 sp0 sp1 yi0 yi1 ct0 ct1 ch0 ch1 cs0 cs1 cp0 cp1 cy0 cy1 w0 w1 : Int} (bk : BoltOk ld th hd ot0 ot1 oh0 oh1 st0 st1 sp0 sp1 yi0 yi1) (n : NarOk ot0 ot1 oh0 oh1 st0 st1 sp0 sp1 yi0 yi1 ct0 ct1 ch0 ch1 cs0 cs1 cp0 cp1 cy0 cy1) (hw : 0 ≤ w0 ∧ 0 ≤ w1) :
    leastV ld th hd ct1 ch1 w0 ≤ leastV ld th hd ot1 oh1 w0 ∧ mostV ld th hd ot0 oh0 w1 yi0 ≤ mostV ld th hd ct0 ch0 w1 cy0 := by
  have ck := nar_bolt bk n
  have ho := ck.ho
  have hp := ck.hp
  have bo := bk.ho
  have bp := bk.hp
  have by' := bk.hy
  have ny := n.y
  have m0 := arm_mono (ld := ld) bk.ht.1 bk.hh.1 n.o.1 n.h.1
  have m1 := arm_mono (ld := ld) bk.ht.1 bk.hh.1 n.o.2.2 n.h.2.2
  have b0 := arm_bd ld th hd ot0 oh0 bk.hl bk.ht bk.hh (by omega) (by omega)
  unfold leastV mostV
  have c1 := ceil_mono (Int.mul_le_mul_of_nonneg_left m1 hw.1)
  have c2 := ceil_mono (mul_mono (a := min w1 yi0 + 1) (b := min w1 cy0 + 1) (by omega) (by omega) (by omega) m0)
  omega
theorem nar_rE {L M L' M' : Int} (hL : L' ≤ L) (hM : M ≤ M') (h : rE L M (-5) 5 = 0) : rE L' M' (-5) 5 = 0 ∧ rA L' M' (-5) 5 ≤ rA L M (-5) 5 ∧ rB L M (-5) 5 ≤ rB L' M' (-5) 5 := by
  have h1 : rLo L' (-5) ≤ rLo L (-5) := by unfold rLo; split <;> split <;> omega
  have h2 : rHi M 5 ≤ rHi M' 5 := by unfold rHi; omega
  unfold rE at h
  split at h
  · omega
  · rename_i h3
    unfold rE rA rB
    rw [if_neg h3, if_neg h3, if_neg (by omega), if_neg (by omega), if_neg (by omega)]
    exact ⟨rfl, h1, h2⟩
theorem nar_fine {ld th hd ot0 ot1 oh0 oh1 st0 st1 sp0 sp1 yi0 yi1 ct0 ct1 ch0 ch1 cs0 cs1 cp0 cp1 cy0 cy1 k t0 t1 a0 a1 s0 s1 w0 w1 : Int} (bk : BoltOk ld th hd ot0 ot1 oh0 oh1 st0 st1 sp0 sp1 yi0 yi1) (n : NarOk ot0 ot1 oh0 oh1 st0 st1 sp0 sp1 yi0 yi1 ct0 ct1 ch0 ch1 cs0 cs1 cp0 cp1 cy0 cy1) (hw : wayB k t0 t1 a0 a1 s0 s1 = true) (h : fineW ld th hd ot0 ot1 oh0 oh1 st0 st1 sp0 sp1 yi0 yi1 w0 w1 ⟨k, t0, t1, a0, a1, s0, s1⟩ = true) : fineW ld th hd ct0 ct1 ch0 ch1 cs0 cs1 cp0 cp1 cy0 cy1 w0 w1 ⟨k, t0, t1, a0, a1, s0, s1⟩ = true := by
  have f := nar_force bk n hw
  have ny := n.y
  have z := tr_bd (r0 := 0) (r1 := 0) (r2 := 0) (r3 := 0) (r4 := 0) (r5 := 0) (r6 := 0) (nar_bolt bk n) hw (by decide) (by decide) (by decide) (by decide) (by decide) (by decide) (by decide)
  simp only [fineW, allI_cons, allI_nil, Bool.and_true, Bool.and_eq_true, decide_eq_true_eq] at h ⊢
  omega
theorem inV_mono {lo hi b c : Int} (h : lo ≤ hi) (hb : b ≤ c) : inV lo hi b ≤ inV lo hi c := by
  have h1 : b * (hi - lo) ≤ c * (hi - lo) := Int.mul_le_mul_of_nonneg_right hb (by omega)
  have h2 := Int.ediv_le_ediv (c := 255) (by omega) h1
  unfold inV; omega
/-- A span by two bytes lies in the whole one. -/
theorem inV_nar {lo hi b c : Int} (h : lo ≤ hi) (hb : 0 ≤ b ∧ b < 256) (hc : 0 ≤ c ∧ c < 256) : lo ≤ inV lo hi (min b c) ∧ inV lo hi (min b c) ≤ inV lo hi (max b c) ∧ inV lo hi (max b c) ≤ hi :=
  ⟨(inV_bd h (by omega)).1, inV_mono h (by omega), (inV_bd h (by omega)).2⟩
theorem nar_refl {ld th hd ot0 ot1 oh0 oh1 st0 st1 sp0 sp1 yi0 yi1 : Int} (bk : BoltOk ld th hd ot0 ot1 oh0 oh1 st0 st1 sp0 sp1 yi0 yi1) : NarOk ot0 ot1 oh0 oh1 st0 st1 sp0 sp1 yi0 yi1 ot0 ot1 oh0 oh1 st0 st1 sp0 sp1 yi0 yi1 := by
  have b1 := bk.ho
  have b2 := bk.hp
  have b3 := bk.hs
  have b4 := bk.hr
  have b5 := bk.hy
  exact ⟨by omega, by omega, by omega, by omega, by omega⟩
theorem gB_2 {P : Program} {F : Fr} {ops : Array Oper} {K : Act → Hp → Prop} {o : Oper} {l : List Oper} {a : Act} {h : Hp} {b : Bool} {c : Option Bool} {Q1 Q2 : Prop} (hb : Hold (Q1 ∨ Q2)) (h1 : Q1 → GuardB P F ops K o l a h b c) (h2 : Q2 → GuardB P F ops K o l a h b c) : GuardB P F ops K o l a h b c := hb.out.elim h1 h2
/-- One way is asked for. -/
theorem bestOne (F : Fr) (h : Hp) (K : Value → Hp → Prop) (ld th hd ot0 ot1 oh0 oh1 st0 st1 sp0 sp1 yi0 yi1 w0 w1 k t0 t1 a0 a1 s0 s1 : Int) (b c : Nat) (hr : readV (h.cell? F) b 0 7 = some [.int .i64 k, .int .i64 t0, .int .i64 t1, .int .i64 a0, .int .i64 a1, .int .i64 s0, .int .i64 s1]) (hv : BoltOk ld th hd ot0 ot1 oh0 oh1 st0 st1 sp0 sp1 yi0 yi1) (hw : wayB k t0 t1 a0 a1 s0 s1 = true) (hwn : spB 0 100000000 w0 w1 = true) {u : Bool} (e : fineW ld th hd ot0 ot1 oh0 oh1 st0 st1 sp0 sp1 yi0 yi1 w0 w1 ⟨k, t0, t1, a0, a1, s0, s1⟩ = u)
    (k0 : u = false → K (.tuple #[.slice none 0 0, .int .i64 7]) h)
    (k1 : u = true → ∀ g cap tl, F.w0.heap.size ≤ g → h.own g = none → K (.tuple #[.slice (some ⟨g, 0, none⟩) 1 cap, .int .i64 0]) (h.set g (.cells (ints [0] ++ tl).toArray 3 (0, 0)))) :
    DCall Try.prog F 29 #[.agg #[.int .i64 ld, .int .i64 th, .int .i64 hd, .int .i64 ot0, .int .i64 ot1, .int .i64 oh0, .int .i64 oh1, .int .i64 st0, .int .i64 st1, .int .i64 sp0, .int .i64 sp1, .int .i64 yi0, .int .i64 yi1], .slice (some ⟨b, 0, none⟩) 1 c, .agg #[.int .i64 w0, .int .i64 w1]] h K := by
  cases u with
  | false =>
    have es : selP (fineW ld th hd ot0 ot1 oh0 oh1 st0 st1 sp0 sp1 yi0 yi1 w0 w1) (widW ld th hd ot0 ot1 oh0 oh1 st0 st1 sp0 sp1 yi0 yi1) [⟨k, t0, t1, a0, a1, s0, s1⟩] 0 = [] := by rw [selP, e]; rfl
    refine bestR F h K ld th hd ot0 ot1 oh0 oh1 st0 st1 sp0 sp1 yi0 yi1 w0 w1 [⟨k, t0, t1, a0, a1, s0, s1⟩] 1 b 0 c ⟨by decide⟩ ⟨hr⟩ hv ⟨by intro w hm; rw [List.mem_singleton.1 hm]; exact hw⟩ hwn ⟨by rw [es]; intro i x y hx; simp at hx⟩ (fun _ => k0 rfl) (fun hh => absurd es hh)
  | true =>
    have es : selP (fineW ld th hd ot0 ot1 oh0 oh1 st0 st1 sp0 sp1 yi0 yi1 w0 w1) (widW ld th hd ot0 ot1 oh0 oh1 st0 st1 sp0 sp1 yi0 yi1) [⟨k, t0, t1, a0, a1, s0, s1⟩] 0 = [(0, widW ld th hd ot0 ot1 oh0 oh1 st0 st1 sp0 sp1 yi0 yi1 ⟨k, t0, t1, a0, a1, s0, s1⟩)] := by rw [selP, e]; rfl
    refine bestR F h K ld th hd ot0 ot1 oh0 oh1 st0 st1 sp0 sp1 yi0 yi1 w0 w1 [⟨k, t0, t1, a0, a1, s0, s1⟩] 1 b 0 c ⟨by decide⟩ ⟨hr⟩ hv ⟨by intro w hm; rw [List.mem_singleton.1 hm]; exact hw⟩ hwn ⟨by rw [es]; intro i x y hx hy; simp at hy⟩ (fun hh => absurd (es.symm.trans hh) (by simp)) (fun _ g cap tl h1 h2 => ?_)
    have := k1 rfl g cap tl h1 h2
    rw [es]
    exact this

end Go.Proofs.Ytdhhaglaikdpbaa
