/-
  A walk over a part of memory, thirteenth part: rows of structs.
  Conditions: none. Plain theorems.
-/
import Derived.Test.YtdhdfdaclbfkiaaS12
set_option linter.unusedVariables false
set_option linter.unusedSimpArgs false
namespace Go.SL
open Go.RowKit
theorem flat_get {α β : Type} {s : Nat} {f : α → List β} (hf : ∀ a, (f a).length = s) : ∀ (l : List α) (i j : Nat) (a : α), l[i]? = some a → j < s → (l.flatMap f)[i * s + j]? = (f a)[j]? := by
  intro l
  induction l with
  | nil => intro i j a h; simp at h
  | cons x l ih =>
    intro i j a h hj
    rw [List.flatMap_cons]
    cases i with
    | zero =>
      simp only [List.getElem?_cons_zero, Option.some.injEq] at h
      subst h
      rw [Nat.zero_mul, Nat.zero_add, List.getElem?_append_left (by rw [hf]; exact hj)]
    | succ i =>
      simp only [List.getElem?_cons_succ] at h
      rw [List.getElem?_append_right (by rw [hf, Nat.succ_mul]; omega), hf]
      have e : (i + 1) * s + j - s = i * s + j := by rw [Nat.succ_mul]; omega
      rw [e]
      exact ih i j a h hj
theorem flat_len {α β : Type} {s : Nat} {f : α → List β} (hf : ∀ a, (f a).length = s) (l : List α) : (l.flatMap f).length = l.length * s := by
  induction l with
  | nil => simp
  | cons x l ih => rw [List.flatMap_cons, List.length_append, hf, ih, List.length_cons, Nat.succ_mul]; omega
/-- Where the first of them is of which something is so; -1 if there is none. -/
def idxL {α : Type} (p : α → Bool) : List α → Int → Int
  | [], _ => -1
  | x :: r, i => if p x then i else idxL p r (i + 1)
theorem idxL_ge {α : Type} (p : α → Bool) : ∀ (l : List α) (i : Int), 0 ≤ i → decide (0 ≤ idxL p l i) = l.any p := by
  intro l
  induction l with
  | nil => intro i _; rfl
  | cons x r ih =>
    intro i hi
    have := ih (i + 1) (by omega)
    by_cases h : p x = true
    · simp [idxL, h, hi]
    · simp only [List.any_cons, ← this, idxL, h]; simp
theorem readV_at {ro : Addr → Option Value} {b off n s : Nat} {α : Type} {f : α → List Value} (hf : ∀ a, (f a).length = s) {l : List α} (hx : readV ro b off (n * s) = some (l.flatMap f)) {i : Nat} {a : α} (ha : l[i]? = some a) :
    ∀ j v, (f a)[j]? = some v → ro ⟨b, off + i * s + j, none⟩ = some v := by
  intro j v hj
  have hlt : j < s := by
    have := (List.getElem?_eq_some_iff.1 hj).1
    rw [hf] at this; exact this
  have h1 := flat_get hf l i j a ha hlt
  rw [hj] at h1
  have := readV_get hx _ _ h1
  rwa [← Nat.add_assoc] at this
section
variable {P : Program} {F : Fr} {S h : Hp} {t e s n m l : Nat} {a : Addr}
/-- A slice of a whole array. -/
theorem dwp_sliceA {K : Value → Hp → Prop} (hu : P.underlying t = some (.array n e)) (hs : ∀ w, (sizeOf e).run P w = .ok s w) :
    dwp P F (Instr.sliceAt t (.pointer (some a)) none none none) h K = K (.slice (some a) n n) h := by
  have hz : ∀ K, dwp P F (sizeOf e) h K = K s h := fun K => dwp_size_of hs
  simp only [Instr.sliceAt, Instr.sureAddr, Instr.sliceBounds, dwp_bind', dwp_pure', BindK_app, dwp_underlying, hu, OptK_some, hz]
  by_cases hn : n = 0
  · simp [hn]
  · rw [if_neg hn]
    simp only [Nat.zero_mul, Nat.sub_zero]
    rfl
theorem rval_sliceA (hu : P.underlying t = some (.array n e)) (hs : ∀ w, (sizeOf e).run P w = .ok s w) :
    rval P F (Instr.sliceAt t (.pointer (some a)) none none none) S = some (.slice (some a) n n) := by
  simp only [Instr.sliceAt, Instr.sureAddr, Instr.sliceBounds, rval_bind', rval_pure', RB_some, rval_un hu, rval_size hs]
  by_cases hn : n = 0
  · simp [hn]
  · rw [if_neg hn]
    simp only [Nat.zero_mul, Nat.sub_zero]
    rfl
end
end Go.SL
