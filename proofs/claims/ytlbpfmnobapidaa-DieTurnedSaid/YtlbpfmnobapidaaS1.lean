/-
  A walk over a part of memory: what a call owns and what it may read. Conditions: none. Plain theorems and definitions.
-/
import Derived.Below
import Derived.Calls
import Derived.Control
import Derived.Tactics
import Derived.Laws.World
import Derived.Orders
set_option linter.unusedVariables false
set_option linter.unusedSimpArgs false
namespace Go.SL
open Go.RowKit

/-- What is owned: whole blocks. -/
structure Hp where
  own : Nat → Option Obj

/-- The world in which the call began, the old blocks that it may write, and the old cells that it may read. -/
structure Fr where
  w0 : World
  M : Nat → Prop
  ro : Addr → Option Value
  hro : ∀ a v, ro a = some v → w0.cell? a = some v ∧ ¬ M a.block
  /-- Is the walk surely outside of the rounds of a range over a function? -/
  top : Bool := true

/-- The same within a round. -/
def Fr.inr (F : Fr) : Fr := { F with top := false }

def Hp.cell? (h : Hp) (F : Fr) (a : Addr) : Option Value :=
  match F.ro a with
  | some v => some v
  | none => match h.own a.block with
    | some (.cells c _ _) => if a.spot.isSome then none else c[a.off]?
    | _ => none
theorem Fr.ro_new {F : Fr} {g i : Nat} {s : Option Nat} (hg : F.w0.heap.size ≤ g) : F.ro ⟨g, i, s⟩ = none := by
  cases e : F.ro ⟨g, i, s⟩ with
  | none => rfl
  | some v => have := World.block_lt_of_cell? _ _ (F.hro _ _ e).1; simp only at this; omega
def Hp.set (h : Hp) (g : Nat) (o : Obj) : Hp := ⟨fun k => if k = g then some o else h.own k⟩
def Hp.drop (h : Hp) (g : Nat) : Hp := ⟨fun k => if k = g then none else h.own k⟩

structure HRel (F : Fr) (h : Hp) (w : World) : Prop where
  own : ∀ g o, h.own g = some o → w.heap[g]? = some o
  size : F.w0.heap.size ≤ w.heap.size
  os : w.os = F.w0.os
  tape : w.tape = F.w0.tape
  output : w.output = F.w0.output
  frame : ∀ b, b < F.w0.heap.size → ¬ F.M b → w.heap[b]? = F.w0.heap[b]?
  mine : ∀ g o, h.own g = some o → F.w0.heap.size ≤ g ∨ F.M g

theorem own_lt {F : Fr} {h : Hp} {w : World} (r : HRel F h w) {g : Nat} {o : Obj} (e : h.own g = some o) : g < w.heap.size :=
  (Array.getElem?_eq_some_iff.1 (r.own g o e)).1

theorem HRel.cell {F : Fr} {h : Hp} {w : World} (r : HRel F h w) {a : Addr} {v : Value} (e : h.cell? F a = some v) : w.cell? a = some v := by
  unfold Hp.cell? at e
  unfold World.cell?
  cases hro : F.ro a with
  | some u =>
    rw [hro] at e
    simp only [Option.some.injEq] at e
    subst e
    have h1 := F.hro a u hro
    rw [r.frame _ (World.block_lt_of_cell? _ a h1.1) h1.2]
    exact h1.1
  | none =>
    rw [hro] at e
    cases ho : h.own a.block with
    | none => rw [ho] at e; cases e
    | some o => rw [ho] at e; rw [r.own _ _ ho]; cases o <;> simp_all

theorem HRel.inr {F : Fr} {h : Hp} {w : World} : HRel F.inr h w ↔ HRel F h w :=
  ⟨fun r => ⟨r.own, r.size, r.os, r.tape, r.output, r.frame, r.mine⟩, fun r => ⟨r.own, r.size, r.os, r.tape, r.output, r.frame, r.mine⟩⟩

theorem HRel.drew {F : Fr} {h : Hp} {w : World} (r : HRel F h w) (n : Nat) : HRel F h { w with drawn := n } :=
  ⟨r.own, r.size, r.os, r.tape, r.output, r.frame, r.mine⟩

theorem HRel.new {F : Fr} {h : Hp} {w : World} (r : HRel F h w) (o : Obj) : HRel F (h.set w.heap.size o) { w with heap := w.heap.push o } := by
  refine ⟨fun g o' e => ?_, ?_, r.os, r.tape, r.output, fun b hb hM => ?_, fun g o' e => ?_⟩
  · simp only [Hp.set] at e
    split at e
    · rename_i hg; subst hg; simp only [Option.some.injEq] at e; subst e; simp
    · have := own_lt r e
      simp only [Array.getElem?_push]
      rw [if_neg (by omega)]
      exact r.own _ _ e
  · simp only [Array.size_push]; have := r.size; omega
  · have := r.size
    simp only [Array.getElem?_push]
    rw [if_neg (by omega)]
    exact r.frame b hb hM
  · simp only [Hp.set] at e
    split at e
    · rename_i hg; subst hg; exact .inl r.size
    · exact r.mine _ _ e

theorem HRel.fresh {F : Fr} {h : Hp} {w : World} (r : HRel F h w) : h.own w.heap.size = none := by
  cases e : h.own w.heap.size with
  | none => rfl
  | some o => have := own_lt r e; omega

/-- A block that is owned is written. -/
theorem HRel.put {F : Fr} {h : Hp} {w w' : World} (r : HRel F h w) {g : Nat} {o o' : Obj} (e : h.own g = some o) (hw : w' = { w with heap := w.heap.setIfInBounds g o' }) : HRel F (h.set g o') w' := by
  subst hw
  have hg := own_lt r e
  refine ⟨fun k o1 e1 => ?_, ?_, r.os, r.tape, r.output, fun b hb hM => ?_, fun k o1 e1 => ?_⟩
  · simp only [Hp.set] at e1
    split at e1
    · rename_i hk; subst hk; simp only [Option.some.injEq] at e1; subst e1; simp [hg]
    · rename_i hk
      simp only [Array.getElem?_setIfInBounds]
      rw [if_neg (by omega)]
      exact r.own _ _ e1
  · simp only [Array.size_setIfInBounds]; exact r.size
  · have hne : g ≠ b := fun he => by
      subst he
      rcases r.mine _ _ e with h1 | h1
      · omega
      · exact hM h1
    simp only [Array.getElem?_setIfInBounds]
    rw [if_neg hne]
    exact r.frame b hb hM
  · simp only [Hp.set] at e1
    split at e1
    · rename_i hk; subst hk; exact r.mine _ _ e
    · exact r.mine _ _ e1

def notAgg : Value → Bool
  | .agg _ => false
  | .tuple _ => false
  | _ => true

/-- The effect of an operation's tree on what is owned. -/
def dwp {α : Type} (P : Program) (F : Fr) : Sem α → Hp → (α → Hp → Prop) → Prop
  | .pure a, h, K => K a h
  | .load _ a k, h, K => match h.cell? F a with
    | some v => dwp P F (k v) h K
    | none => False
  | .store _ a v k, h, K => match h.own a.block with
    | some (.cells c t fr) => notAgg v = true ∧ a.spot = none ∧ a.off < c.size ∧ (decide (fr.1 ≤ a.off) && decide (a.off < fr.2)) = false ∧ dwp P F k (h.set a.block (.cells (c.setIfInBounds a.off v) t fr)) K
    | _ => False
  | .new o k, h, K => ∀ g, F.w0.heap.size ≤ g → h.own g = none → dwp P F (k g) (h.set g o) K
  | .shape r k, h, K => match h.own r with
    | some (.cells c e _) => dwp P F (k (some (e, c.size))) h K
    | some _ => dwp P F (k none) h K
    | none => ∀ s, dwp P F (k s) h K
  | .freeze _ _ _, _, _ => False
  | .frozen _ k, h, K => ∀ b, dwp P F (k b) h K
  | .getObj r k, h, K => match h.own r with
    | some (.cells ..) => False
    | some o => dwp P F (k o) h K
    | none => False
  | .setObj r o k, h, K => match h.own r with
    | some (.cells ..) => False
    | some _ => dwp P F k (h.set r o) K
    | none => False
  | .choose q k, h, K => if q.forced then dwp P F (k 0) h K else ∀ n, dwp P F (k (q.cut n)) h K
  | .sys _ _, _, _ => False
  | .program k, h, K => dwp P F (k P) h K
  | .mark _ k, h, K => dwp P F k h K
  | .halt _, _, _ => False

theorem dwp_run {α : Type} {P : Program} {F : Fr} {K : α → Hp → Prop} : ∀ (s : Sem α) (h : Hp) (w : World), dwp P F s h K → HRel F h w →
    ∃ a w' h', s.run P w = .ok a w' ∧ K a h' ∧ HRel F h' w' := by
  intro s
  induction s with
  | pure a => exact fun h w hk r => ⟨a, w, h, rfl, hk, r⟩
  | load m a k ih =>
    intro h w hk r
    simp only [dwp] at hk
    cases e : h.cell? F a with
    | none => rw [e] at hk; exact hk.elim
    | some v =>
      rw [e] at hk
      simp only [Sem.run, r.cell e]
      exact ih v h w hk r
  | store m a v k ih =>
    intro h w hk r
    simp only [dwp] at hk
    cases e : h.own a.block with
    | none => rw [e] at hk; exact hk.elim
    | some o =>
      rw [e] at hk
      cases o <;> simp only at hk
      rename_i c t fr
      obtain ⟨h1, h2, h3, h4, h5⟩ := hk
      have hc : w.cell? a = some (c[a.off]'h3) := by
        unfold World.cell?
        rw [r.own _ _ e]
        simp [h2, h3]
      have hf : w.frozen? a = false := by
        unfold World.frozen?
        rw [r.own _ _ e]
        exact h4
      have hs : w.setCell a v = { w with heap := w.heap.setIfInBounds a.block (.cells (c.setIfInBounds a.off v) t fr) } := by
        have hlt := own_lt r e
        have hg : w.heap[a.block] = .cells c t fr := by
          have := r.own _ _ e
          rw [Array.getElem?_eq_getElem hlt] at this
          exact Option.some.inj this
        unfold World.setCell
        congr 1
        apply Array.ext_getElem?
        intro i
        simp only [Array.getElem?_modify, Array.getElem?_setIfInBounds]
        by_cases hb : a.block = i
        · subst hb
          rw [if_pos rfl, if_pos rfl, r.own _ _ e]
          simp [h2, hlt]
        · rw [if_neg hb, if_neg hb]
      have hrun : (Sem.store m a v k).run P w = k.run P (w.setCell a v) := by
        cases v <;> simp_all [notAgg, Sem.run]
      rw [hrun]
      exact ih _ _ h5 (r.put e hs)
  | new o k ih =>
    intro h w hk r
    simp only [dwp] at hk
    simp only [Sem.run]
    exact ih _ _ _ (hk w.heap.size r.size r.fresh) (r.new o)
  | shape b k ih =>
    intro h w hk r
    simp only [dwp] at hk
    simp only [Sem.run]
    cases e : h.own b with
    | none => rw [e] at hk; exact ih _ _ _ (hk _) r
    | some o =>
      rw [e] at hk
      have : w.shape? b = match o with | .cells c e _ => some (e, c.size) | _ => none := by
        unfold World.shape?
        rw [r.own _ _ e]
        cases o <;> rfl
      rw [this]
      cases o <;> exact ih _ _ _ hk r
  | freeze a n k ih => exact fun h w hk r => (hk : False).elim
  | frozen a k ih =>
    intro h w hk r
    exact ih _ _ _ (hk _) r
  | getObj b k ih =>
    intro h w hk r
    simp only [dwp] at hk
    simp only [Sem.run]
    cases e : h.own b with
    | none => rw [e] at hk; exact hk.elim
    | some o =>
      rw [e] at hk
      rw [r.own _ _ e]
      cases o <;> first | exact (hk : False).elim | exact ih _ _ _ hk r
  | setObj b o k ih =>
    intro h w hk r
    simp only [dwp] at hk
    simp only [Sem.run]
    cases e : h.own b with
    | none => rw [e] at hk; exact hk.elim
    | some o' =>
      rw [e] at hk
      rw [r.own _ _ e]
      cases o' <;> first | exact (hk : False).elim | exact ih _ _ hk (r.put e rfl)
  | choose q k ih =>
    intro h w hk r
    simp only [dwp] at hk
    simp only [Sem.run]
    split
    · rename_i hq; simp only [hq, if_true] at hk; exact ih _ _ _ hk r
    · rename_i hq; simp only [hq] at hk; exact ih _ _ _ (hk _) (r.drew _)
  | sys c k ih => exact fun h w hk r => (hk : False).elim
  | program k ih => exact fun h w hk r => ih _ _ _ hk r
  | mark m k ih => exact fun h w hk r => ih _ _ hk r
  | halt x => exact fun h w hk r => (hk : False).elim

theorem dwp_bind {α β : Type} {P : Program} {F : Fr} {f : α → Sem β} {K : β → Hp → Prop} : ∀ (s : Sem α) (h : Hp),
    dwp P F (s.bind f) h K = dwp P F s h (fun a h' => dwp P F (f a) h' K) := by
  intro s
  induction s <;> intro h <;> simp only [Sem.bind, dwp] <;> simp_all

theorem dwp_mono {α : Type} {P : Program} {F : Fr} {K K' : α → Hp → Prop} (hk : ∀ a h, K a h → K' a h) : ∀ (s : Sem α) (h : Hp), dwp P F s h K → dwp P F s h K' := by
  intro s
  induction s with
  | pure a => exact fun h hh => hk _ _ hh
  | load m a k ih => intro h hh; simp only [dwp] at hh ⊢; split at hh <;> simp_all
  | store m a v k ih => intro h hh; simp only [dwp] at hh ⊢; split at hh <;> simp_all
  | new o k ih => intro h hh; simp only [dwp] at hh ⊢; exact fun g h1 h2 => ih _ _ (hh g h1 h2)
  | shape b k ih => intro h hh; simp only [dwp] at hh ⊢; split at hh <;> simp_all
  | freeze a n k ih => exact fun h hh => hh
  | frozen a k ih => intro h hh; simp only [dwp] at hh ⊢; exact fun b => ih _ _ (hh b)
  | getObj b k ih => intro h hh; simp only [dwp] at hh ⊢; split at hh <;> simp_all
  | setObj b o k ih => intro h hh; simp only [dwp] at hh ⊢; split at hh <;> simp_all
  | choose q k ih => intro h hh; simp only [dwp] at hh ⊢; split at hh <;> simp_all
  | sys c k ih => exact fun h hh => hh
  | program k ih => exact fun h hh => ih _ _ hh
  | mark m k ih => exact fun h hh => ih _ hh
  | halt x => exact fun h hh => hh
end Go.SL
