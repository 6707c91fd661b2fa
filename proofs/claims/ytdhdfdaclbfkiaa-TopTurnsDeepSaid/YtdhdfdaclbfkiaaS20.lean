/-
  A walk over a part of memory, twentieth part: a region that draws whose last operation waits for all others.
  Conditions: none. Plain theorems and definitions.
-/
import Derived.Test.YtdhdfdaclbfkiaaS19
set_option linter.unusedVariables false
set_option linter.unusedSimpArgs false
namespace Go.SL
open Go.RowKit
section
variable {P : Program} {F : Fr} {S : Hp} {ops : Array Oper}
/-- The last operation, behind all others. -/
def LastK (P : Program) (F : Fr) (ops : Array Oper) (o : Oper) (K : Act → Hp → Prop) (a : Act) (h : Hp) : Prop := dops P F ops K [o] a h
theorem LastK_app {o : Oper} {K : Act → Hp → Prop} {a : Act} {h : Hp} : LastK P F ops o K a h = dops P F ops K [o] a h := rfl
theorem last_sound (ro : Option Nat) {o : Oper} {i : Nat} {a : Act} {h : Hp} {w : World} {K : Act → Hp → Prop} {Q : Exit → Act → World → Prop} (ho : ops[i]? = some o) (r : HRel F h w)
    (hs : LastK P F ops o K a h) : wpOpIn (wideR ro) 0 P ops Q i (fun a' w' => ∃ h', K a' h' ∧ HRel F h' w') a w := by
  unfold wpOpIn
  simp only [ho]
  simp only [LastK, dops] at hs
  split
  · rename_i hw
    simp only [hw, if_true] at hs
    exact dop_sound ro hs r
  · rename_i hw
    simp only [hw] at hs
    exact ⟨wideR_about, h, hs, r⟩
theorem wpAnyL_of (ro : Option Nat) {n : Nat} {last : Oper} {A : List (List Nat)} {kinds : Nat → Kind} {K : Act → Hp → Prop} {Q : Exit → Act → World → Prop} (hq : ∀ a h w, K a h → HRel F h w → Q .normal a w)
    (hn : ops.size = n + 1) (hlast : ops[n]? = some last) (hall : ∀ j, j < n → j ∈ A.getD n [])
    (hA : ∀ j o, ops[j]? = some o → (∀ p ∈ preds o, p < j) ∧ ∀ k ∈ A.getD j [], ∃ p ∈ preds o, p = k ∨ k ∈ A.getD p [])
    (hsel : ∀ j, selB (itemOf kinds ops j).2 = false)
    (hp : ∀ j, j < n → ∀ i, i < j → i ∈ A.getD j [] ∨ ((itemOf kinds ops i).2.apart ops (itemOf kinds ops j).2 = true ∧ okKinds (kinds i) (kinds j) = true)) :
    ∀ (fuel : Nat) (listed : Array Bool) (l : List Nat) (a : Act) (h : Hp) (w : World), listed.size = ops.size → Closed ops listed → l.Pairwise (· < ·) → (∀ j, j ∈ l ↔ j < n ∧ listed.getD j true = false) → listed.getD n true = false → l.length + 1 ≤ fuel →
      T P F S ops (LastK P F ops last K) (l.map (itemOf kinds ops)) a h → Inv F S h → HRel F h w → wpAnyIn (wideR ro) 0 P .any ops Q fuel listed a w := by
  intro fuel
  induction fuel with
  | zero => intro listed l a h w _ _ _ _ _ hlen; omega
  | succ fuel ih =>
    intro listed l a h w hs hc hsort hl hun hlen ht hi r
    have hnn : n < ops.size := by omega
    refine ⟨fun hr => ?_, fun i hi' => ?_⟩
    · exfalso
      -- something is ready: the first that is not listed
      have key : ∀ j, j < ops.size → listed.getD j true = false → (∀ i, i < j → ¬ listed.getD i true = false) → False := by
        intro j hj hlj hbefore
        have ho : ops[j]? = some ops[j] := Array.getElem?_eq_getElem hj
        have : j ∈ Region.ready .any ops listed := by
          rw [mem_ready]
          refine ⟨hlj, _, ho, fun e he hb => ?_⟩
          have hp' : e.on ∈ preds ops[j] := mem_preds.2 ⟨e, he, hb, rfl⟩
          have hlt := (hA j _ ho).1 _ hp'
          have hn2 := hbefore e.on hlt
          simp only [Array.getD_eq_getD_getElem?] at hn2 ⊢
          rw [Array.getElem?_eq_getElem (by omega)] at hn2 ⊢
          simpa using hn2
        rw [hr] at this
        cases this
      cases l with
      | nil =>
        refine key n hnn hun fun i hi hli => ?_
        have := (hl i).2 ⟨hi, hli⟩
        cases this
      | cons j l =>
        obtain ⟨h1, h2⟩ := (hl j).1 (List.mem_cons_self ..)
        refine key j (by omega) h2 fun i hi hli => ?_
        have hm := (hl i).2 ⟨by omega, hli⟩
        rcases List.mem_cons.1 hm with hm | hm
        · omega
        · have := (List.pairwise_cons.1 hsort).1 _ hm; omega
    · obtain ⟨h0, o, ho, hedges⟩ := mem_ready.1 hi'
      have hlt : i < ops.size := (Array.getElem?_eq_some_iff.1 ho).1
      have hpl : ∀ p ∈ preds o, listed.getD p false = true := fun p hp' => by
        obtain ⟨e, he, hb, rfl⟩ := mem_preds.1 hp'
        exact hedges e he hb
      by_cases hin : i = n
      · subst hin
        rw [hlast] at ho
        simp only [Option.some.injEq] at ho
        subst ho
        have hnil : l = [] := by
          cases l with
          | nil => rfl
          | cons j l =>
            exfalso
            obtain ⟨h1, h2⟩ := (hl j).1 (List.mem_cons_self ..)
            have h4 := anc_listed hA hc hs i last hlast hpl j (hall j h1)
            simp only [Array.getD_eq_getD_getElem?] at h4 h2
            rw [Array.getElem?_eq_getElem (by omega)] at h4 h2
            simp only [Option.getD_some] at h4 h2
            rw [h4] at h2
            cases h2
        subst hnil
        refine wpOpIn_mono (fun a' w' hh => ?_) (last_sound ro hlast r ht)
        obtain ⟨h', q1, q3⟩ := hh
        have hdone : Region.ready .any ops (listed.setIfInBounds i true) = [] := by
          cases hr : Region.ready .any ops (listed.setIfInBounds i true) with
          | nil => rfl
          | cons x xs =>
            exfalso
            have hx : x ∈ Region.ready .any ops (listed.setIfInBounds i true) := by rw [hr]; exact List.mem_cons_self ..
            obtain ⟨g0, ox, hox, _⟩ := mem_ready.1 hx
            have hxs : x < ops.size := (Array.getElem?_eq_some_iff.1 hox).1
            by_cases hxi : i = x
            · subst hxi
              simp [hs, hlt] at g0
            · rw [getD_set_ne true hxi] at g0
              have := (hl x).2 ⟨by omega, g0⟩
              cases this
        cases fuel with
        | zero => exact ⟨hdone, hq _ _ _ q1 q3⟩
        | succ f => exact ⟨fun _ => hq _ _ _ q1 q3, fun j hj => by rw [hdone] at hj; cases hj⟩
      · have hm : i ∈ l := (hl i).2 ⟨by omega, h0⟩
        obtain ⟨l1, l2, rfl⟩ := List.append_of_mem hm
        have hpw := List.pairwise_append.1 hsort
        have hit : itemOf kinds ops i = (kinds i, o) := by simp [itemOf, ho]
        rw [List.map_append, List.map_cons] at ht
        have h2 := T_out (P := P) (F := F) (S := S) (ops := ops) (K := LastK P F ops last K) (o := itemOf kinds ops i) (l2 := l2.map (itemOf kinds ops)) (l1.map (itemOf kinds ops)) a h hi (fun k hk => by
          obtain ⟨j, hj, rfl⟩ := List.mem_map.1 hk
          have hji : j < i := hpw.2.2 j hj i (List.mem_cons_self ..)
          refine ⟨hsel j, ?_⟩
          rcases hp i (by omega) j hji with h3 | h3
          · exfalso
            have h4 := anc_listed hA hc hs i o ho hpl j h3
            have h5 := ((hl j).1 (List.mem_append_left _ hj)).2
            simp only [Array.getD_eq_getD_getElem?] at h4 h5
            rw [Array.getElem?_eq_getElem (by omega)] at h4 h5
            simp only [Option.getD_some] at h4 h5
            rw [h4] at h5
            cases h5
          · exact h3) (hsel i) ht
        rw [hit, ← List.map_append] at h2
        refine wpOpIn_mono (fun a' w' hh => ?_) (St.sound ro ho hi r h2)
        obtain ⟨h', q1, q2, q3⟩ := hh
        refine ih (listed.setIfInBounds i true) (l1 ++ l2) a' h' w' (by simp [hs]) ?_ ?_ ?_ ?_ ?_ q2 q1 q3
        · intro j oj hoj hlj p hpp
          by_cases hij : i = j
          · subst hij
            rw [ho] at hoj
            simp only [Option.some.injEq] at hoj
            subst hoj
            exact getD_set_true (hpl p hpp)
          · rw [getD_set_ne true hij] at hlj
            exact getD_set_true (hc j oj hoj hlj p hpp)
        · exact hsort.sublist (List.Sublist.append (List.Sublist.refl l1) (List.sublist_cons_self i l2))
        · intro j
          have hnot : i ∉ l1 ++ l2 := by
            intro hmem
            rcases List.mem_append.1 hmem with hm1 | hm2
            · have := hpw.2.2 i hm1 i (List.mem_cons_self ..); omega
            · have := (List.pairwise_cons.1 hpw.2.1).1 i hm2; omega
          by_cases hij : i = j
          · subst hij
            refine ⟨fun hmem => absurd hmem hnot, fun hh => ?_⟩
            have := hh.2
            simp [hs, hlt] at this
          · rw [getD_set_ne true hij, ← hl j]
            simp only [List.mem_append, List.mem_cons]
            constructor
            · rintro (h3 | h3)
              · exact .inl h3
              · exact .inr (.inr h3)
            · rintro (h3 | h3 | h3)
              · exact .inl h3
              · exact absurd h3.symm hij
              · exact .inr h3
        · rw [getD_set_ne true hin]; exact hun
        · simp only [List.length_append, List.length_cons] at hlen ⊢
          omega
/-- A region that draws whose last operation waits for all others. -/
def okDrawL (over : List Nat) (l : List Oper) (o : Oper) : Bool :=
  let A := ancs (l ++ [o]) []
  okAnc (l ++ [o]) A && (okPairs (items over l) (l ++ [o]).toArray A && (!selB o && (List.range l.length).all fun j => (A.getD l.length []).contains j))
theorem DDraw.ofL {id : Nat} {l : List Oper} {o : Oper} {K : Act → Hp → Prop} {a : Act} {h : Hp} (over : List Nat) (S : Hp) (hm : P.follows .mixedOrders = true) (hok : okDrawL over l o = true) (hS : ∀ g o, S.own g = some o → h.own g = some o)
    (ht : T P F S (l ++ [o]).toArray (LastK P F (l ++ [o]).toArray o K) (items over l) a h) : DDraw P F id (l ++ [o]).toArray K a h := by
  intro Q hQ ro _ w r
  refine wpIn_region_any hm ?_
  unfold okDrawL at hok
  simp only [Bool.and_eq_true, Bool.not_eq_true', List.all_eq_true, List.mem_range, List.contains_iff_mem] at hok
  obtain ⟨ok1, ok2, ok3, ok4⟩ := hok
  have r' : HRel F h { w with drawn := w.drawn + 1 } := r.drew _
  have hi : Inv F S h := ⟨hS, ⟨w.heap.size, fun g hg => by
    cases e : h.own g with
    | none => rfl
    | some o => have := own_lt r e; omega⟩, r.mine⟩
  have hsz : (l ++ [o]).toArray.size = l.length + 1 := by simp
  have hL : ∀ j, j < l.length → (l ++ [o]).toArray[j]? = l[j]? := fun j hj => by simp [List.getElem?_append_left hj]
  have hget : ∀ j q, l[j]? = some q → itemOf (fun j => (((items over l)[j]?).map (·.1)).getD .ev) (l ++ [o]).toArray j = (if over.contains j then overKind q.op else kindOf q.op, q) := by
    intro j q hq
    have hj : j < l.length := (List.getElem?_eq_some_iff.1 hq).1
    unfold itemOf
    dsimp only
    rw [items_get (over := over) hq, hL j hj, hq]
    rfl
  have hitems : (List.range l.length).map (itemOf (fun j => (((items over l)[j]?).map (·.1)).getD .ev) (l ++ [o]).toArray) = items over l := by
    apply List.ext_getElem?
    intro j
    by_cases hj : j < l.length
    · have ho : l[j]? = some l[j] := List.getElem?_eq_getElem hj
      rw [items_get ho, List.getElem?_map, List.getElem?_range hj, Option.map_some, hget j _ ho]
    · have h1 : (items over l).length = l.length := by simp [items]
      rw [List.getElem?_eq_none (by simp; omega), List.getElem?_eq_none (by omega)]
  have hlast : (l ++ [o]).toArray[l.length]? = some o := by simp
  refine wpAnyL_of ro (n := l.length) (last := o) (P := P) (F := F) (S := S) (A := ancs (l ++ [o]) []) (kinds := fun j => (((items over l)[j]?).map (·.1)).getD .ev) (K := K) (fun a h w hk rr => ⟨h, hQ _ _ hk, rr⟩) hsz hlast ok4 ?_ ?_ ?_ (l ++ [o]).toArray.size _ (List.range l.length) a h _ (by simp) ?_ ?_ ?_ ?_ ?_ ?_ hi r'
  · intro j q hq
    exact okAnc_spec ok1 j q (by simpa using hq)
  · intro j
    by_cases hj : j < l.length
    · have ho : l[j]? = some l[j] := List.getElem?_eq_getElem hj
      rw [hget j _ ho]
      exact (okPairs_spec ok2 j _ (items_get ho)).1
    · by_cases hj2 : j = l.length
      · subst hj2
        unfold itemOf
        rw [hlast]
        exact ok3
      · unfold itemOf
        rw [Array.getElem?_eq_none (by omega)]
        rfl
  · intro j hj i hij
    have ho : l[j]? = some l[j] := List.getElem?_eq_getElem hj
    have ho' : l[i]? = some (l[i]'(by omega)) := List.getElem?_eq_getElem (by omega)
    have h1 := (okPairs_spec ok2 j _ (items_get ho)).2 i _ hij (items_get ho')
    rw [hget j _ ho, hget i _ ho', items_get ho, items_get ho']
    exact h1
  · intro j q hq hl
    exfalso
    have hlt : j < l.length + 1 := by have := (Array.getElem?_eq_some_iff.1 hq).1; omega
    simp [hlt] at hl
  · exact List.pairwise_lt_range
  · intro j
    simp only [List.mem_range]
    constructor
    · intro hj; exact ⟨hj, by simp [show j < l.length + 1 by omega]⟩
    · exact fun hh => hh.1
  · simp
  · simp
  · rw [hitems]; exact ht
def initL {α : Type} : List α → List α
  | [] => []
  | [_] => []
  | x :: y :: r => x :: initL (y :: r)
theorem initL_one {α : Type} {x : α} : initL [x] = [] := rfl
theorem initL_cons {α : Type} {x y : α} {r : List α} : initL (x :: y :: r) = x :: initL (y :: r) := rfl
def lastL {α : Type} (d : α) : List α → α
  | [] => d
  | [x] => x
  | _ :: y :: r => lastL d (y :: r)
theorem lastL_one {α : Type} {d x : α} : lastL d [x] = x := rfl
theorem lastL_cons {α : Type} {d x y : α} {r : List α} : lastL d (x :: y :: r) = lastL d (y :: r) := rfl
theorem DDraw.toldL {id : Nat} {L : List Oper} {l : List Oper} {o : Oper} {K : Act → Hp → Prop} {a : Act} {h : Hp} (over : List Nat) (roots : List Operand) (hm : P.follows .mixedOrders = true) (e : L = l ++ [o]) (hok : okDrawL over l o = true)
    (ht : TI P F (drops a roots h) (l ++ [o]).toArray (LastK P F (l ++ [o]).toArray o K) over 0 l a h) : DDraw P F id L.toArray K a h := by
  subst e
  exact DDraw.ofL over _ hm hok (fun _ _ e => drops_le e) (by unfold items; rw [TI_eq]; exact ht)
theorem initL_last {α : Type} (d : α) : ∀ (l : List α), l ≠ [] → l = initL l ++ [lastL d l]
  | [], h => absurd rfl h
  | [x], _ => rfl
  | x :: y :: r, _ => by rw [initL_cons, lastL_cons, List.cons_append, ← initL_last d (y :: r) (by simp)]
theorem DDraw.lasts {id : Nat} {x : Oper} {r : List Oper} {K : Act → Hp → Prop} {a : Act} {h : Hp} (over : List Nat) (roots : List Operand) (hm : P.follows .mixedOrders = true) (hok : okDrawL over (initL (x :: r)) (lastL x (x :: r)) = true)
    (ht : TI P F (drops a roots h) (x :: r).toArray (LastK P F (x :: r).toArray (lastL x (x :: r)) K) over 0 (initL (x :: r)) a h) : DDraw P F id (x :: r).toArray K a h := by
  have e := initL_last x (x :: r) (by simp)
  refine DDraw.toldL over roots hm e hok ?_
  rw [← e]
  exact ht
end
end Go.SL
