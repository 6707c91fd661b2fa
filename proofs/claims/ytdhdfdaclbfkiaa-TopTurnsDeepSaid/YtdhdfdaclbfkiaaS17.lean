/-
  A walk over a part of memory, seventeenth part: the slots of a call in chunks of sixteen.
  Conditions: none. Plain theorems and definitions.
-/
import Derived.Test.YtdhdfdaclbfkiaaS16
set_option linter.unusedVariables false
set_option linter.unusedSimpArgs false
namespace Go.SL
open Go.RowKit
section
variable {α : Type} {d x v : α} {l : List α} {n : Nat}
def gL (d : α) : List α → Nat → α
  | [], _ => d
  | x :: _, 0 => x
  | _ :: l, n + 1 => gL d l n
theorem gL_nil : gL d [] n = d := rfl
theorem gL_zero : gL d (x :: l) 0 = x := rfl
theorem gL_succ : gL d (x :: l) (n + 1) = gL d l n := rfl
def sL (d : α) : List α → Nat → α → List α
  | [], 0, v => [v]
  | [], n + 1, v => d :: sL d [] n v
  | _ :: l, 0, v => v :: l
  | x :: l, n + 1, v => x :: sL d l n v
theorem sL_nil_zero : sL d [] 0 v = [v] := rfl
theorem sL_nil_succ : sL d [] (n + 1) v = d :: sL d [] n v := rfl
theorem sL_zero : sL d (x :: l) 0 v = v :: l := rfl
theorem sL_succ : sL d (x :: l) (n + 1) v = x :: sL d l n v := rfl
theorem gL_sL (d v : α) : ∀ (l : List α) (i j : Nat), gL d (sL d l i v) j = if j = i then v else gL d l j
  | [], 0, 0 => rfl
  | [], 0, _ + 1 => rfl
  | [], i + 1, 0 => rfl
  | [], i + 1, j + 1 => by
    rw [sL_nil_succ, gL_succ, gL_sL d v [] i j]
    by_cases h : j = i
    · rw [if_pos h, if_pos (by omega)]
    · rw [if_neg h, if_neg (by omega)]; rfl
  | x :: l, 0, 0 => rfl
  | x :: l, 0, j + 1 => rfl
  | x :: l, i + 1, 0 => rfl
  | x :: l, i + 1, j + 1 => by
    rw [sL_succ, gL_succ, gL_sL d v l i j]
    by_cases h : j = i
    · rw [if_pos h, if_pos (by omega)]
    · rw [if_neg h, if_neg (by omega)]; rfl
end
/-- What lies in a slot: in the chunks, or else by a function. -/
def lk (x : Nat → Value) (T : List (List (Option Value))) (i : Nat) : Value := (gL none (gL [] T (i / 16)) (i % 16)).getD (x i)
theorem lk_def {x : Nat → Value} {T : List (List (Option Value))} {i : Nat} : lk x T i = (gL none (gL [] T (i / 16)) (i % 16)).getD (x i) := rfl
def st (T : List (List (Option Value))) (i : Nat) (v : Value) : List (List (Option Value)) := sL [] T (i / 16) (sL none (gL [] T (i / 16)) (i % 16) (some v))
theorem st_def {T : List (List (Option Value))} {i : Nat} {v : Value} : st T i v = sL [] T (i / 16) (sL none (gL [] T (i / 16)) (i % 16) (some v)) := rfl
theorem lk_st (x : Nat → Value) (T : List (List (Option Value))) (i j : Nat) (v : Value) : lk x (st T i v) j = if j = i then v else lk x T j := by
  unfold lk st
  rw [gL_sL]
  by_cases h : j / 16 = i / 16
  · rw [if_pos h, gL_sL, ← h]
    by_cases h2 : j % 16 = i % 16
    · rw [if_pos h2, if_pos (by omega)]; rfl
    · rw [if_neg h2, if_neg (by omega)]
  · rw [if_neg h, if_neg (by omega)]
def fl (n : Nat) (x : Nat → Value) (T : List (List (Option Value))) : Array Value := ((List.range n).map (lk x T)).toArray
theorem fl_get {n i : Nat} {x : Nat → Value} {T : List (List (Option Value))} (h : i < n) : (fl n x T)[i]? = some (lk x T i) := by
  unfold fl
  rw [List.getElem?_toArray, List.getElem?_map, List.getElem?_range h]
  rfl
theorem fl_getD {n i : Nat} {x : Nat → Value} {T : List (List (Option Value))} {u : Value} (h : i < n) : (fl n x T).getD i u = lk x T i := by
  rw [Array.getD_eq_getD_getElem?, fl_get h]; rfl
theorem fl_size {n : Nat} {x : Nat → Value} {T : List (List (Option Value))} : (fl n x T).size = n := by simp [fl]
theorem fl_set {n i : Nat} {x : Nat → Value} {T : List (List (Option Value))} {v : Value} : (fl n x T).setIfInBounds i v = fl n x (st T i v) := by
  apply Array.ext_getElem?
  intro j
  rw [Array.getElem?_setIfInBounds, fl_size]
  by_cases hj : j < n
  · rw [fl_get hj, fl_get hj, lk_st]
    by_cases h : i = j
    · subst h; rw [if_pos rfl, if_pos hj, if_pos rfl]
    · rw [if_neg h, if_neg (fun e => h e.symm)]
  · have e1 : (fl n x T)[j]? = none := by rw [Array.getElem?_eq_none_iff, fl_size]; omega
    have e2 : (fl n x (st T i v))[j]? = none := by rw [Array.getElem?_eq_none_iff, fl_size]; omega
    rw [e1, e2]
    by_cases h : i = j
    · subst h; rw [if_pos rfl, if_neg hj]
    · rw [if_neg h]
theorem gL_map_some {l : List Value} {i : Nat} : gL none (l.map some) i = l[i]? := by
  induction l generalizing i with
  | nil => rfl
  | cons x l ih => cases i with
    | zero => rfl
    | succ i => simp only [List.map_cons, gL_succ, List.getElem?_cons_succ]; exact ih
theorem fl_enter {l : List Value} {n : Nat} (h16 : l.length ≤ 16) (hn : l.length ≤ n) : l.toArray ++ Array.replicate (n - l.toArray.size) undef = fl n (fun _ => undef) [l.map some] := by
  apply Array.ext_getElem?
  intro j
  rw [Array.getElem?_append]
  simp only [List.size_toArray]
  by_cases hj : j < n
  · rw [fl_get hj]
    by_cases h : j < l.length
    · rw [if_pos h]
      have e1 : j / 16 = 0 := by omega
      have e2 : j % 16 = j := by omega
      simp only [lk, e1, e2, gL_zero, gL_map_some, List.getElem?_toArray, List.getElem?_eq_getElem h, Option.getD_some]
    · rw [if_neg h, Array.getElem?_replicate, if_pos (by omega)]
      congr 1
      unfold lk
      by_cases e : j / 16 = 0
      · rw [e, gL_zero, gL_map_some, List.getElem?_eq_none (by omega)]; rfl
      · obtain ⟨k, hk⟩ : ∃ k, j / 16 = k + 1 := ⟨j / 16 - 1, by omega⟩
        rw [hk, gL_succ, gL_nil, gL_nil]; rfl
  · have e1 : (fl n (fun _ => undef) [l.map some])[j]? = none := by rw [Array.getElem?_eq_none_iff, fl_size]; omega
    rw [e1, if_neg (by omega), Array.getElem?_replicate, if_neg (by omega)]
section
variable {P : Program} {F : Fr} {h : Hp} {f : FuncId} {v : Value}
theorem Cr.ofF {fn : Func} {c : Code} {rs : List ResultVar} {ro : Addr → Option Value} {l : List Value} {n : Nat} (hf : P.funcs[f]? = some fn) (hn : fn.ntmps = n) (hb : fn.body = some c) (hr : fn.results.toList = rs) (h16 : l.length ≤ 16) (hl : l.length ≤ n)
    (hd : ∀ F : Fr, F.ro = ro → dcode P F c (Post P F rs (EqV v)) ⟨fl n (fun _ => undef) [l.map some], []⟩ Hp.none_) : Cr P f l.toArray ro v := by
  subst hn
  exact Cr.of hf hb hr (fun F hF => by rw [fl_enter h16 hl]; exact hd F hF)
theorem DCall.inlF {fn : Func} {c : Code} {K : Value → Hp → Prop} {rs : List ResultVar} {l : List Value} {n : Nat} (hf : P.funcs[f]? = some fn) (hn : fn.ntmps = n) (hb : fn.body = some c) (hr : fn.results.toList = rs) (h16 : l.length ≤ 16) (hl : l.length ≤ n)
    (hd : dcode P F c (Post P F rs K) ⟨fl n (fun _ => undef) [l.map some], []⟩ h) : DCall P F f l.toArray h K := by
  subst hn
  exact DCall.inl hf hb hr (by rw [fl_enter h16 hl]; exact hd)
/-- The same slots, by other chunks: what they don't hold lies in the function. -/
theorem fl_re {n : Nat} {x : Nat → Value} {T T2 : List (List (Option Value))} {ds : List Deferred} (e : fl n x T = fl n (lk x T) T2) : (⟨fl n x T, ds⟩ : Act) = ⟨fl n (lk x T) T2, ds⟩ := by rw [← e]
end
end Go.SL
