/-
  A walk over a part of memory, sixteenth part: what is not wanted any more is left out behind a call.
  Conditions: none. Plain theorems and definitions.
-/
import Derived.Test.YtdhdfdaclbfkiaaS15
set_option linter.unusedVariables false
set_option linter.unusedSimpArgs false
namespace Go.SL
open Go.RowKit
section
variable {P : Program} {F : Fr} {h : Hp}
def setO (h : Hp) (b : Nat) : Option Obj → Hp
  | some o => h.set b o
  | none => h
theorem setO_some {b : Nat} {o : Obj} : setO h b (some o) = h.set b o := rfl
/-- Of a memory these blocks alone. -/
def onlyL : List (Option Nat) → Hp → Hp
  | [], _ => Hp.none_
  | none :: r, h => onlyL r h
  | some b :: r, h => setO (onlyL r h) b (h.own b)
theorem onlyL_nil : onlyL [] h = Hp.none_ := rfl
theorem onlyL_none {r : List (Option Nat)} : onlyL (none :: r) h = onlyL r h := rfl
theorem onlyL_some {b : Nat} {r : List (Option Nat)} : onlyL (some b :: r) h = setO (onlyL r h) b (h.own b) := rfl
theorem onlyL_le : ∀ {l : List (Option Nat)} {g : Nat} {o : Obj}, (onlyL l h).own g = some o → h.own g = some o
  | [], _, _, e => by cases e
  | none :: r, _, _, e => onlyL_le (l := r) e
  | some b :: r, g, o, e => by
    rw [onlyL_some] at e
    cases hb : h.own b with
    | none => rw [hb] at e; exact onlyL_le (l := r) e
    | some o' =>
      rw [hb, setO_some, Hp.own_set] at e
      split at e
      · rename_i hg; subst hg; rw [hb]; exact e
      · exact onlyL_le (l := r) e
/-- Behind a call: the memory is left with the blocks of some slots. -/
def FgK (ts : List Nat) (o : Oper) (a : Act) (K : Act → Hp → Prop) (v : Value) (h : Hp) : Prop := K (a.put o.dst v) (onlyL (ts.map fun t => blk (a.tmps.getD t undef)) h)
theorem FgK_app {ts : List Nat} {o : Oper} {a : Act} {K : Act → Hp → Prop} {v : Value} : FgK ts o a K v h = K (a.put o.dst v) (onlyL (ts.map fun t => blk (a.tmps.getD t undef)) h) := rfl
theorem DCall.forget (d : Nat) (ts : List Nat) {f : FuncId} {args : Array Value} {op : Op} {ty : TypeId} {pos : String} {af : Array Edge} {g : Option (Nat × Bool)} {a : Act} {K : Act → Hp → Prop}
    (hd : DCall P F f args h (FgK ts ⟨some d, op, ty, pos, af, g⟩ a K)) : DCall P F f args h (CallK ⟨some d, op, ty, pos, af, g⟩ a K) := by
  refine ⟨fun w r => ?_⟩
  refine (hd.out w r).mono fun e w' ⟨v, h', he, hv, r'⟩ => ⟨v, onlyL (ts.map fun t => blk (a.tmps.getD t undef)) h', he, hv, ?_⟩
  exact ⟨fun g o e => r'.own g o (onlyL_le e), r'.size, r'.os, r'.tape, r'.output, r'.frame, fun g o e => r'.mine g o (onlyL_le e)⟩
end
end Go.SL
