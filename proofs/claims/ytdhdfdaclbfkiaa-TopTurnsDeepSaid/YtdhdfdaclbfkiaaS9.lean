/-
  A walk over a part of memory, ninth part: arguments that are arrays of integers, read at the call's beginning and behind it.
  Conditions: none. Plain theorems.
-/
import Derived.Test.YtdhdfdaclbfkiaaS8
import Derived.WalkKit
import Derived.ProofKit
import Derived.OpenShut
import Derived.ShutString
import Derived.ChangeOld
set_option linter.unusedVariables false
set_option linter.unusedSimpArgs false
namespace Go.SL
open Go.RowKit Go.ChangeShapes Go.WideShapes Go.ChangeAt
section
variable {H : Type} {enc : TypeId × Value → H} {P : Program} {w w' : World} {base base' : Nat} {spare spare' : Nat → Bool} {held held' : Bool} {t e n : Nat} {k : IntKind}
theorem trod_int_any (he : P.underlying e = some (.int k)) (fuel : Nat) (cs : List Value) :
    DataW.trod enc P w base spare held fuel e cs = DataW.trod enc P w' base' spare' held' fuel e cs := by
  cases fuel with
  | zero => rfl
  | succ m =>
    unfold DataW.trod
    rw [he]
    cases cs with
    | nil => rfl
    | cons v r => cases v <;> cases r <;> rfl
theorem trod_arr_any (ht : P.underlying t = some (.array n e)) (he : P.underlying e = some (.int k)) (fuel : Nat) (cs : List Value) :
    DataW.trod enc P w base spare held fuel t cs = DataW.trod enc P w' base' spare' held' fuel t cs := by
  cases fuel with
  | zero => rfl
  | succ m =>
    unfold DataW.trod
    rw [ht]
    have : (fun i => DataW.trod enc P w base spare held m e ((cs.drop (i * P.cellsOf e)).take (P.cellsOf e))) = (fun i => DataW.trod enc P w' base' spare' held' m e ((cs.drop (i * P.cellsOf e)).take (P.cellsOf e))) := by
      funext i; exact trod_int_any he m _
    simp only [this]
theorem ints_of {cs : List Value} : (∀ i, i < cs.length → ∃ x, cs[i]? = some (.int k x) ∧ (Lit.int k x).wf = true) → ∃ xs : List Int, cs = xs.map (Value.int k) ∧ ∀ x ∈ xs, (Lit.int k x).wf = true := by
  induction cs with
  | nil => exact fun _ => ⟨[], rfl, by simp⟩
  | cons v r ih =>
    intro h
    obtain ⟨x, hx, hw⟩ := h 0 (by simp)
    obtain ⟨xs, hr, hws⟩ := ih (fun i hi => by have := h (i + 1) (by simp; omega); simpa using this)
    simp only [List.getElem?_cons_zero, Option.some.injEq] at hx
    refine ⟨x :: xs, by rw [hx, hr]; rfl, ?_⟩
    intro y hy
    rcases List.mem_cons.1 hy with rfl | hy
    · exact hw
    · exact hws y hy
theorem flat_nil {α β : Type} {xs : List (α × List β)} : (∀ x ∈ xs, x.2 = []) → xs.flatMap (·.2) = [] := by
  intro h
  exact List.flatMap_eq_nil_iff.2 h
/-- An array of integers that came in. -/
theorem open_arr {r : Reach} {b0 : Nat} {v : Value} {d : DataW H} {ps : List MemPlace} (ht : P.underlying t = some (.array n e)) (he : P.underlying e = some (.int k)) (hc : P.cellsOf e = 1) (hct : P.cellsOf t = n)
    (hval : Value.okWide P w r b0 t v) (hd : DataW.Trod enc P w base spare held t v d ps) :
    ∃ xs : List Int, xs.length = n ∧ v = .agg (xs.map (Value.int k)).toArray ∧ d = .agg (xs.map fun x => DataW.lit (.int k x)) ∧ ps = [] ∧ (∀ x ∈ xs, (Lit.int k x).wf = true) ∧
      ∀ (W' : World) (b : Nat) (sp : Nat → Bool) (hh : Bool), DataW.Trod enc P W' b sp hh t v d [] := by
  obtain ⟨cs, rfl, hsz⟩ : ∃ cs, v = .agg cs ∧ cs.size = n := by
    have := hval
    unfold Value.okWide at this
    rw [ht] at this
    cases v <;> simp_all
  obtain ⟨fuel, hf⟩ := hd
  obtain ⟨l⟩ := cs
  simp only [Value.cells] at hf
  obtain ⟨ys, m, rfl, hx, hl, hn, hi⟩ := DataW.trod_array ht hf
  simp only [List.size_toArray] at hsz
  rw [hc] at hi
  have key : ∀ i, i < n → ∃ x, l[i]? = some (.int k x) ∧ ys[i]? = some (.lit (.int k x), []) ∧ (Lit.int k x).wf = true := by
    intro i hlt
    have h1 := hi i hlt
    have hy : ys[i]? = some (ys[i]'(by omega)) := List.getElem?_eq_getElem (by omega)
    rw [hy] at h1
    obtain ⟨x, hcs, hxy, hw⟩ := DataW.trod_int he h1
    refine ⟨x, ?_, by rw [hy, hxy], hw⟩
    have h2 : ((l.drop (i * 1)).take 1)[0]? = some (.int k x) := by rw [hcs]; rfl
    rw [List.getElem?_take_of_lt (by omega), List.getElem?_drop] at h2
    simpa using h2
  obtain ⟨xs, rfl, hw⟩ := ints_of (k := k) (cs := l) (fun i hlt => by obtain ⟨x, h1, _, h3⟩ := key i (by omega); exact ⟨x, h1, h3⟩)
  have hps : ps = [] := by
    rw [Prod.mk.injEq] at hx
    rw [hx.2]
    refine flat_nil fun y hy => ?_
    obtain ⟨i, hlt, hyi⟩ := List.getElem_of_mem hy
    obtain ⟨x, _, h2, _⟩ := key i (by omega)
    rw [List.getElem?_eq_getElem hlt, hyi] at h2
    simp only [Option.some.injEq] at h2
    rw [h2]
  subst hps
  have hd : d = .agg (xs.map fun x => DataW.lit (.int k x)) := by
    rw [Prod.mk.injEq] at hx
    rw [hx.1]
    congr 1
    apply List.ext_getElem?
    intro i
    simp only [List.length_map] at hsz
    by_cases hlt : i < n
    · obtain ⟨x, h1, h2, _⟩ := key i hlt
      rw [List.getElem?_map, h2]
      rw [List.getElem?_map] at h1
      rw [List.getElem?_map]
      cases hxi : xs[i]? with
      | none => rw [hxi] at h1; cases h1
      | some y =>
        rw [hxi] at h1
        simp only [Option.map_some, Option.some.injEq, Value.int.injEq, true_and] at h1
        subst h1; rfl
    · rw [List.getElem?_eq_none (by simp; omega), List.getElem?_eq_none (by simp; omega)]
  refine ⟨xs, by simpa using hsz, rfl, hd, rfl, hw, fun W' b sp hh => ⟨m + 1, ?_⟩⟩
  simp only [Value.cells]
  rw [← hf]
  exact trod_arr_any ht he _ _
end
theorem wf_u8 {x : Int} (h : (Lit.int .u8 x).wf = true) : 0 ≤ x ∧ x < 256 := by
  simp [Lit.wf, IntKind.min, IntKind.max, IntKind.signed, IntKind.bits] at h
  omega
theorem wf_u16 {x : Int} (h : (Lit.int .u16 x).wf = true) : 0 ≤ x ∧ x < 65536 := by
  simp [Lit.wf, IntKind.min, IntKind.max, IntKind.signed, IntKind.bits] at h
  omega
theorem list2 {α : Type} (l : List α) (h : l.length = 2) : ∃ a b, l = [a, b] := by
  match l, h with
  | [a, b], _ => exact ⟨a, b, rfl⟩
theorem list3 {α : Type} (l : List α) (h : l.length = 3) : ∃ a b c, l = [a, b, c] := by
  match l, h with
  | [a, b, c], _ => exact ⟨a, b, c, rfl⟩
theorem list4 {α : Type} (l : List α) (h : l.length = 4) : ∃ a b c d, l = [a, b, c, d] := by
  match l, h with
  | [a, b, c, d], _ => exact ⟨a, b, c, d, rfl⟩
theorem list5 {α : Type} (l : List α) (h : l.length = 5) : ∃ a b c d e, l = [a, b, c, d, e] := by
  match l, h with
  | [a, b, c, d, e], _ => exact ⟨a, b, c, d, e, rfl⟩
theorem list6 {α : Type} (l : List α) (h : l.length = 6) : ∃ a b c d e f, l = [a, b, c, d, e, f] := by
  match l, h with
  | [a, b, c, d, e, f], _ => exact ⟨a, b, c, d, e, f, rfl⟩
end Go.SL
