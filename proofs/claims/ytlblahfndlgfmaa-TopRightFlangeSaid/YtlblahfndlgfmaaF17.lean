/-
  Walks. Conditions: none.
-/
import Derived.Test.YtlblahfndlgfmaaF16
set_option linter.unusedVariables false
set_option linter.unusedSimpArgs false
namespace Go.Proofs.Ytlblahfndlgfmaa
open Go.RowKit Go.SL
set_option maxHeartbeats 1000000
set_option maxRecDepth 1000000
attribute [local go_sem] fl_getD fl_get fl_set lk_def st_def gL_nil gL_zero gL_succ sL_nil_zero sL_nil_succ sL_zero sL_succ Option.getD_none FgK_app onlyL_nil onlyL_none onlyL_some setO_some toB_bool toB_undef yl_def
attribute [local go_sem high] GuardK_yl GuardL_yl
attribute [local go_sem] initL_one initL_cons lastL_one lastL_cons LastK_app fin_round Fr.inr_w0 Fr.inr_ro Fr.inr_M cell_inr LoopO_some YieldK_some RoundQ_normal RoundQ_ret RoundQ_exit EndR_none EndR_some BegK_app BegR_some OutR_none OutR_ret OutR_exit LeftR_some LeftK_app
attribute [local go_sem] i64w
attribute [local go_sem] dwp_eqGuardE dwp_eqGuardN rval_eqGuardE rval_eqGuardN
attribute [local go_sem] add_none
/-- The share of a number. -/
def svF (s0 s1 s2 s3 : Int) (j : Nat) : Int := if j = 0 then s0 else if j = 1 then s1 else if j = 2 then s2 else s3
theorem svF_get {s0 s1 s2 s3 : Int} {j : Nat} (h : j < 4) : #[Value.int .u8 s0, .int .u8 s1, .int .u8 s2, .int .u8 s3][j]? = some (.int .u8 (svF s0 s1 s2 s3 j)) := by
  obtain rfl | rfl | rfl | rfl : j = 0 ∨ j = 1 ∨ j = 2 ∨ j = 3 := by omega
  all_goals rfl
theorem svF_bd {s0 s1 s2 s3 : Int} {j : Nat} (h0 : 0 ≤ s0 ∧ s0 < 256) (h1 : 0 ≤ s1 ∧ s1 < 256) (h2 : 0 ≤ s2 ∧ s2 < 256) (h3 : 0 ≤ s3 ∧ s3 < 256) : 0 ≤ svF s0 s1 s2 s3 j ∧ svF s0 s1 s2 s3 j < 256 := by
  unfold svF
  split
  · exact h0
  · split
    · exact h1
    · split
      · exact h2
      · exact h3
/-- The shares while they are written. -/
def shJ (sv : Nat → Int) (m j : Nat) : List Int := (List.range m).map fun i => if i < j then sv i / 4 else 0
theorem shJ_zero {sv : Nat → Int} {m : Nat} : shJ sv m 0 = List.replicate m 0 := by
  unfold shJ
  apply List.ext_getElem?
  intro i
  by_cases hi : i < m
  · simp [List.getElem?_range hi, List.getElem?_replicate, hi]
  · simp [List.getElem?_replicate, hi, List.getElem?_eq_none (l := List.range m) (i := i) (by simp; omega)]
theorem shJ_set {sv : Nat → Int} {m j : Nat} : (ints (shJ sv m j)).set j (.int .i64 (sv j / 4)) = ints (shJ sv m (j + 1)) := by
  unfold ints shJ
  apply List.ext_getElem
  · simp
  · intro i h1 h2
    simp only [List.length_set, List.length_map, List.length_range] at h1
    by_cases hi : i = j
    · subst hi
      simp
    · rw [List.getElem_set, if_neg (fun e => hi e.symm)]
      simp only [List.getElem_map, List.getElem_range]
      by_cases h3 : i < j
      · rw [if_pos h3, if_pos (by omega)]
      · rw [if_neg h3, if_neg (by omega)]
theorem shJ_len {sv : Nat → Int} {m j : Nat} : (shJ sv m j).length = m := by unfold shJ; simp
theorem shJ_bd {sv : Nat → Int} {m j : Nat} (h : ∀ i, 0 ≤ sv i ∧ sv i < 256) : ∀ x ∈ shJ sv m j, 0 ≤ x ∧ x ≤ 500 := by
  intro x hx
  unfold shJ at hx
  obtain ⟨i, _, rfl⟩ := List.mem_map.1 hx
  have := h i
  split <;> omega
theorem rnd_cells : ∀ (n : Nat) (tq : Int), ((rndP n tq).flatMap spC).length = n * 2
  | 0, _ => rfl
  | n + 1, tq => by
    rw [rndP_succ, List.flatMap_append, List.length_append, rnd_cells n tq]
    simp [spC]
    omega
def ILs (n : Nat) (tq ka kb kc ke s0 s1 s2 s3 : Int) (sv : Nat → Int) (g2 g4 g9 gs : Nat) (k' : Nat) (a : Act) (h : Hp) : Prop :=
  ∃ (j : Nat) (x : Nat → Value), Hold (j + k' = n / 2) ∧ h.own g2 = some (.cells #[.int .u8 s0, .int .u8 s1, .int .u8 s2, .int .u8 s3] 22) ∧ h.own g4 = some (.cells #[.int .i64 2000, .int .i64 5000, .int .i64 7000, .int .i64 ka, .int .i64 kb, .int .i64 kc, .int .i64 ke, .int .i64 50000, .int .i64 60000, .int .i64 90, .int .i64 110, .int .i64 30000, .int .i64 33000] 28) ∧ h.own g9 = some (.cells #[.int .i64 n, .int .i64 2000, .int .i64 5000, .int .i64 7000, .int .i64 ka, .int .i64 kb, .int .i64 kc, .int .i64 ke, .int .i64 50000, .int .i64 60000, .int .i64 90, .int .i64 110, .int .i64 30000, .int .i64 33000, .slice (some ⟨gs, 0, none⟩) ((n / 2 : Nat)) ((n / 2 : Nat)), .int .i64 0] 33) ∧ h.own gs = some (.cells (ints (shJ sv (n / 2) j)).toArray 3) ∧ a = ⟨fl 174 x [[none, none, none, none, some (.pointer (some ⟨g2, 0, none⟩)), none, none, some (.pointer (some ⟨g4, 0, none⟩)), some (.int .i64 n), some (.pointer (some ⟨g9, 0, none⟩)), some (.int .i64 tq), some (.int .i64 j)]], []⟩
def ILt (n : Nat) (tq ka kb kc ke mst : Int) (f l : Nat → Int × Int) (g4 g12 gF gL : Nat) (k' : Nat) (a : Act) (h : Hp) : Prop :=
  ∃ (j : Nat) (x : Nat → Value), Hold (j + k' = n) ∧ h.own g4 = some (.cells #[.int .i64 2000, .int .i64 5000, .int .i64 7000, .int .i64 ka, .int .i64 kb, .int .i64 kc, .int .i64 ke, .int .i64 50000, .int .i64 60000, .int .i64 90, .int .i64 110, .int .i64 30000, .int .i64 33000] 28) ∧ h.own g12 = some (.cells #[.slice (some ⟨gF, 0, none⟩) n n, .int .i64 mst, .slice (some ⟨gL, 0, none⟩) n n] 74) ∧ h.own gF = some (.cells (flS f n).toArray 26) ∧ h.own gL = some (.cells (flS l n).toArray 26) ∧ a = ⟨fl 174 x [[none, none, none, none, none, none, none, some (.pointer (some ⟨g4, 0, none⟩)), some (.int .i64 n), none, some (.int .i64 tq), none, some (.pointer (some ⟨g12, 0, none⟩)), none, some (.int .i64 j)]], []⟩

end Go.Proofs.Ytlblahfndlgfmaa
