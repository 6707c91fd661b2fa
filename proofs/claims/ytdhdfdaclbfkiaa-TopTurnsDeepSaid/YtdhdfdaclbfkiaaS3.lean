/-
  A walk over a part of memory, third part: how an operation's tree reads, step by step.
  Conditions: none. Plain theorems and definitions.
-/
import Derived.Test.YtdhdfdaclbfkiaaS2
import Derived.Laws.Entries
import Derived.WalkKit
namespace Go.SL
open Go.RowKit
section
variable {α β : Type} {P : Program} {F : Fr} {h : Hp}

def BindK (P : Program) (F : Fr) (f : α → Sem β) (K : β → Hp → Prop) (a : α) (h : Hp) : Prop := dwp P F (f a) h K
theorem BindK_app {f : α → Sem β} {K : β → Hp → Prop} {a : α} : BindK P F f K a h = dwp P F (f a) h K := rfl
theorem dwp_bind' {s : Sem α} {f : α → Sem β} {K : β → Hp → Prop} : dwp P F (s >>= f) h K = dwp P F s h (BindK P F f K) := dwp_bind s h
theorem dwp_pure' {a : α} {K : α → Hp → Prop} : dwp P F (pure a) h K = K a h := rfl
theorem dwp_pure {a : α} {K : α → Hp → Prop} : dwp P F (Sem.pure a) h K = K a h := rfl
def CellK (K : Value → Hp → Prop) (h : Hp) : Option Value → Prop
  | some v => K v h
  | none => False
theorem CellK_some {K : Value → Hp → Prop} {v : Value} : CellK K h (some v) = K v h := rfl
theorem dwp_load' {a : Addr} {m : Mode} {K : Value → Hp → Prop} : dwp P F (load a m) h K = CellK K h (h.cell? F a) := by
  simp only [load, dwp]
  cases h.cell? F a <;> rfl
def StoreK (a : Addr) (v : Value) (K : Unit → Hp → Prop) (h : Hp) : Option Obj → Prop
  | some (.cells c t fr) => notAgg v = true ∧ a.spot = none ∧ a.off < c.size ∧ (decide (fr.1 ≤ a.off) && decide (a.off < fr.2)) = false ∧ K () (h.set a.block (.cells (c.setIfInBounds a.off v) t fr))
  | _ => False
theorem StoreK_some {a : Addr} {v : Value} {K : Unit → Hp → Prop} {c : Array Value} {t : TypeId} {fr : Nat × Nat} : StoreK a v K h (some (.cells c t fr)) =
  (notAgg v = true ∧ a.spot = none ∧ a.off < c.size ∧ (decide (fr.1 ≤ a.off) && decide (a.off < fr.2)) = false ∧ K () (h.set a.block (.cells (c.setIfInBounds a.off v) t fr))) := rfl
theorem dwp_store' {a : Addr} {v : Value} {m : Mode} {K : Unit → Hp → Prop} : dwp P F (store a v m) h K = StoreK a v K h (h.own a.block) := by
  simp only [store, dwp]
  cases h.own a.block with
  | none => rfl
  | some o => cases o <;> rfl
def NewK (F : Fr) (o : Obj) (K : Nat → Hp → Prop) (h : Hp) : Prop := ∀ g, F.w0.heap.size ≤ g → h.own g = none → K g (h.set g o)
theorem NewK.intro {o : Obj} {K : Nat → Hp → Prop} (H : ∀ g, F.w0.heap.size ≤ g → h.own g = none → K g (h.set g o)) : NewK F o K h := H
theorem dwp_newObj {o : Obj} {K : Nat → Hp → Prop} : dwp P F (newObj o) h K = NewK F o K h := rfl
theorem dwp_program {K : Program → Hp → Prop} : dwp P F program h K = K P h := rfl
theorem dwp_mark {m : Mark} {K : Unit → Hp → Prop} : dwp P F (mark m) h K = K () h := rfl
def OptK (K : α → Hp → Prop) (h : Hp) : Option α → Prop
  | some v => K v h
  | none => False
theorem OptK_some {K : α → Hp → Prop} {v : α} : OptK K h (some v) = K v h := rfl
theorem dwp_underlying {t : TypeId} {K : TypeDesc → Hp → Prop} : dwp P F (underlying t) h K = OptK K h (P.underlying t) := by
  simp only [underlying, dwp_bind', dwp_program, BindK_app]
  cases P.underlying t <;> rfl
theorem dwp_sizeOf {t : TypeId} {K : Nat → Hp → Prop} : dwp P F (sizeOf t) h K = OptK K h ((P.info? t).map (·.size)) := by
  simp only [sizeOf, typeInfo, dwp_bind', dwp_program, BindK_app]
  cases P.info? t <;> rfl
theorem dwp_zeroValue {t : TypeId} {K : Value → Hp → Prop} : dwp P F (zeroValue t) h K = OptK K h ((P.info? t).bind (·.zero)) := by
  simp only [zeroValue, typeInfo, dwp_bind', dwp_program, BindK_app]
  cases e : P.info? t with
  | none => rfl
  | some i =>
    simp only [Option.bind_some]
    show dwp P F (match i.zero with | some v => pure v | none => unsupported (.resourceLimit "a value of more than 2^22 cells")) h K = _
    cases i.zero <;> rfl
/-- Is a type an aggregate? -/
def aggT (P : Program) (t : TypeId) : Option Bool := (P.underlying t).map fun | .struct _ | .array _ _ => true | _ => false
theorem dwp_isAgg {t : TypeId} {K : Bool → Hp → Prop} : dwp P F (isAgg t) h K = OptK K h (aggT P t) := by
  simp only [isAgg, dwp_bind', dwp_underlying, aggT]
  cases P.underlying t with
  | none => rfl
  | some d => cases d <;> rfl
/-- May a function be entered? -/
def entB (P : Program) (f : FuncId) : Bool := ((P.funcs[f]?).map fun fn => !(fn.name == "runtime.NumGoroutine") && !fn.body.isNone).getD false
theorem dwp_callFunc {f : FuncId} {args : Array Value} {K : Next → Hp → Prop} (e : entB P f = true) : dwp P F (callFunc f args) h K = K (.enter f args) h := by
  unfold entB at e
  simp only [callFunc, dwp_bind', dwp_program, BindK_app]
  cases ho : P.funcs[f]? with
  | none => rw [ho] at e; simp at e
  | some fn =>
    rw [ho] at e
    simp only [Option.map_some, Option.getD_some, Bool.and_eq_true, Bool.not_eq_true'] at e
    simp only [e.1, e.2, Bool.false_eq_true, if_false]
    rfl
theorem dwp_true {K : α → Hp → Prop} {s t : Sem α} : dwp P F (if true = true then s else t) h K = dwp P F s h K := rfl
end
section
variable {P : Program} {F : Fr} {h : Hp} {o : Oper} {a : Act} {K : Act → Hp → Prop}
theorem fin_value {v : Value} : fin P F o a K (.value v) h = K (a.put o.dst v) h := rfl
theorem fin_skip : fin P F o a K .skip h = K (a.put o.dst undef) h := rfl
/-- Behind a call. -/
def CallK (o : Oper) (a : Act) (K : Act → Hp → Prop) (v : Value) (h : Hp) : Prop := K (a.put o.dst v) h
theorem CallK_app {v : Value} : CallK o a K v h = K (a.put o.dst v) h := rfl
theorem fin_round {l f : Nat} {tmps : Array Value} {assign body : Code} : fin P F o a K (.round l f tmps assign body) h = DRound P F l f tmps assign body h (CallK o a K) := rfl
theorem fin_enter {f : FuncId} {args : Array Value} : fin P F o a K (.enter f args) h = DCall P F f args h (CallK o a K) := rfl
theorem dop_def : dop P F o a h K = dwp P F (execOp a.eval o) h (fin P F o a K) := rfl
end
section
variable {P : Program} {F : Fr} {ops : Array Oper} {K : Act → Hp → Prop} {a : Act} {h : Hp} {o : Oper} {l : List Oper}
theorem dops_nil : dops P F ops K [] a h = K a h := rfl
/-- The rest of a region. -/
def Rest (P : Program) (F : Fr) (ops : Array Oper) (K : Act → Hp → Prop) (l : List Oper) (a : Act) (h : Hp) : Prop := dops P F ops K l a h
theorem Rest_app {t : Array Value} {ds : List Deferred} : Rest P F ops K l ⟨t, ds⟩ h = dops P F ops K l ⟨t, ds⟩ h := rfl
def GuardB (P : Program) (F : Fr) (ops : Array Oper) (K : Act → Hp → Prop) (o : Oper) (l : List Oper) (a : Act) (h : Hp) (b : Bool) : Option Bool → Prop
  | some c => (c = b → dop P F o a h (Rest P F ops K l)) ∧ (c = (!b) → dops P F ops K l (a.put o.dst undef) h)
  | none => dops P F ops K l (a.put o.dst undef) h
theorem GuardB_tt : GuardB P F ops K o l a h true (some true) = dop P F o a h (Rest P F ops K l) := by simp [GuardB]
theorem GuardB_ff : GuardB P F ops K o l a h false (some false) = dop P F o a h (Rest P F ops K l) := by simp [GuardB]
theorem GuardB_tf : GuardB P F ops K o l a h true (some false) = dops P F ops K l (a.put o.dst undef) h := by simp [GuardB]
theorem GuardB_ft : GuardB P F ops K o l a h false (some true) = dops P F ops K l (a.put o.dst undef) h := by simp [GuardB]
theorem GuardB_none {b : Bool} : GuardB P F ops K o l a h b none = dops P F ops K l (a.put o.dst undef) h := rfl
theorem GuardB.split {b c : Bool} (h1 : c = b → dop P F o a h (Rest P F ops K l)) (h2 : c = (!b) → dops P F ops K l (a.put o.dst undef) h) : GuardB P F ops K o l a h b (some c) := ⟨h1, h2⟩
def GuardK (P : Program) (F : Fr) (ops : Array Oper) (K : Act → Hp → Prop) (o : Oper) (l : List Oper) (a : Act) (h : Hp) : Option (Nat × Bool) → Prop
  | none => dop P F o a h (Rest P F ops K l)
  | some (j, b) => GuardB P F ops K o l a h b (yielded ops a.tmps j)
theorem GuardK_none : GuardK P F ops K o l a h none = dop P F o a h (Rest P F ops K l) := rfl
theorem GuardK_some {j : Nat} {b : Bool} : GuardK P F ops K o l a h (some (j, b)) = GuardB P F ops K o l a h b (yielded ops a.tmps j) := rfl
theorem dops_cons : dops P F ops K (o :: l) a h = GuardK P F ops K o l a h o.guard := by
  cases hg : o.guard with
  | none => simp only [dops, Region.wanted, hg, if_true, GuardK]; rfl
  | some jb =>
    obtain ⟨j, b⟩ := jb
    simp only [dops, Region.wanted, hg, GuardK]
    cases hy : yielded ops a.tmps j with
    | none => simp only [GuardB]; rw [if_neg (by simp)]
    | some c =>
      simp only [GuardB]
      cases c <;> cases b <;> simp <;> rfl
end
section
variable {P : Program} {F : Fr} {Q : Exit → Act → Hp → Prop} {K : Act → Hp → Prop} {a : Act} {h : Hp} {x y : Code}
theorem Then_normal : Then K Q .normal a h = K a h := rfl
theorem Then_exit {id : Nat} : Then K Q (.exit id) a h = Q (.exit id) a h := rfl
theorem Then_ret : Then K Q .ret a h = Q .ret a h := rfl
theorem InBlock_normal {id : Nat} : InBlock id Q .normal a h = Q .normal a h := rfl
theorem InBlock_ret {id : Nat} : InBlock id Q .ret a h = Q .ret a h := rfl
theorem InBlock_exit {id id' : Nat} : InBlock id Q (.exit id') a h = if id' = id then Q .normal a h else Q (.exit id') a h := rfl
theorem Kont_app {t : Array Value} {ds : List Deferred} : Kont P F y Q ⟨t, ds⟩ h = dcode P F y Q ⟨t, ds⟩ h := rfl
theorem dcode_skip : dcode P F .skip Q a h = Q .normal a h := rfl
theorem dcode_plain {id : Nat} {ops : List Oper} : dcode P F (.region id ops.toArray false) Q a h = dops P F ops.toArray (Q .normal) ops a h := rfl
theorem dcode_draw {id : Nat} {ops : Array Oper} : dcode P F (.region id ops true) Q a h = DDraw P F id ops (Q .normal) a h := rfl
def CondK (P : Program) (F : Fr) (x y : Code) (Q : Exit → Act → Hp → Prop) (a : Act) (h : Hp) : Value → Prop
  | .bool b => (b = true → dcode P F x Q a h) ∧ (b = false → dcode P F y Q a h)
  | _ => False
theorem dcode_cond {c : Operand} : dcode P F (.cond c x y) Q a h = CondK P F x y Q a h (a.eval c) := by
  simp only [dcode, CondK]
  rfl
theorem CondK_true : CondK P F x y Q a h (.bool true) = dcode P F x Q a h := by simp [CondK]
theorem CondK_false : CondK P F x y Q a h (.bool false) = dcode P F y Q a h := by simp [CondK]
theorem CondK.split {b : Bool} (h1 : b = true → dcode P F x Q a h) (h2 : b = false → dcode P F y Q a h) : CondK P F x y Q a h (.bool b) := ⟨h1, h2⟩
theorem dcode_block {id : Nat} : dcode P F (.block id x) Q a h = dcode P F x (InBlock id Q) a h := rfl
theorem dcode_exit {id : Nat} : dcode P F (.exit id) Q a h = Q (.exit id) a h := rfl
theorem dcode_ret : dcode P F .ret Q a h = Q .ret a h := rfl
theorem dcode_label {l : Nat} : dcode P F (.label l) Q a h = Q .normal a h := rfl
theorem dcode_loop : dcode P F (.loop x) Q a h = DLoop P F x Q a h := rfl
end
section
variable {P : Program} {F : Fr} {a : Act} {h : Hp} {K : Value → Hp → Prop} {rs : List ResultVar} {tmps : Array Value} {acc : List Value}
/-- The results, behind the marks. -/
def ResP (P : Program) (F : Fr) (tmps : Array Value) (rs : List ResultVar) (K : Value → Hp → Prop) (h : Hp) : Prop := ResK P F tmps rs [] h K
theorem ResP_app : ResP P F tmps rs K h = ResK P F tmps rs [] h K := rfl
theorem Post_ret : Post P F rs K .ret a h = DefK (ResP P F a.tmps rs K) a.defers h := rfl
theorem Post_normal : Post P F rs K .normal a h = DefK (ResP P F a.tmps rs K) a.defers h := rfl
theorem DefK_nil {k : Hp → Prop} : DefK k [] h = k h := rfl
def DefM (k : Hp → Prop) (r : Nat) (ds : List Deferred) (h : Hp) : Option Obj → Prop
  | some (.deferred (some [])) => DefK k ds (h.set r (.deferred none))
  | _ => False
theorem DefM_some {k : Hp → Prop} {r : Nat} {ds : List Deferred} : DefM k r ds h (some (.deferred (some []))) = DefK k ds (h.set r (.deferred none)) := rfl
theorem DefK_cons {k : Hp → Prop} {r : Nat} {xs : Array Value} {ds : List Deferred} : DefK k (⟨.collected r, xs⟩ :: ds) h = DefM k r ds h (h.own r) := by
  simp only [DefK, DefM]
  rfl
theorem ResK_one {v : Value} : ResK P F tmps [] [v] h K = K v h := rfl
theorem ResK_none : ResK P F tmps [] [] h K = K (.tuple #[]) h := rfl
theorem ResK_more {u v : Value} {vs : List Value} : ResK P F tmps [] (u :: v :: vs) h K = K (.tuple (u :: v :: vs).toArray) h := rfl
theorem ResK_tmp {t : Tmp} {r : List ResultVar} : ResK P F tmps (.tmp t :: r) acc h K = ResK P F tmps r (acc ++ [tmps.getD t undef]) h K := rfl
def ResC (P : Program) (F : Fr) (tmps : Array Value) (r : List ResultVar) (acc : List Value) (K : Value → Hp → Prop) (v : Value) (h : Hp) : Prop := ResK P F tmps r (acc ++ [v]) h K
theorem ResC_app {v : Value} {r : List ResultVar} : ResC P F tmps r acc K v h = ResK P F tmps r (acc ++ [v]) h K := rfl
def AdK (P : Program) (F : Fr) (tmps : Array Value) (t : TypeId) (r : List ResultVar) (acc : List Value) (h : Hp) (K : Value → Hp → Prop) : Value → Prop
  | .pointer (some ad) => dwp P F (loadVar t ad) h (ResC P F tmps r acc K)
  | _ => False
theorem ResK_cell {t : TypeId} {x : Tmp} {r : List ResultVar} : ResK P F tmps (.cell x t :: r) acc h K = AdK P F tmps t r acc h K (tmps.getD x undef) := rfl
theorem AdK_some {t : TypeId} {r : List ResultVar} {ad : Addr} : AdK P F tmps t r acc h K (.pointer (some ad)) = dwp P F (loadVar t ad) h (ResC P F tmps r acc K) := rfl
end
/-! ### What is owned -/
theorem Hp.own_set {h : Hp} {g g' : Nat} {o : Obj} : (h.set g o).own g' = if g' = g then some o else h.own g' := rfl
theorem Hp.none_own {g : Nat} : Hp.none_.own g = none := rfl
def OwnC (i : Nat) : Option Obj → Option Value
  | some (.cells c _ _) => c[i]?
  | _ => none
theorem OwnC_some {i : Nat} {c : Array Value} {t : TypeId} {fr : Nat × Nat} : OwnC i (some (.cells c t fr)) = c[i]? := rfl
def RoC (i : Nat) (o : Option Obj) : Option Value → Option Value
  | some v => some v
  | none => OwnC i o
theorem RoC_some {i : Nat} {o : Option Obj} {v : Value} : RoC i o (some v) = some v := rfl
theorem RoC_none {i : Nat} {o : Option Obj} : RoC i o none = OwnC i o := rfl
theorem Hp.cell_def {h : Hp} {F : Fr} {b i : Nat} : h.cell? F ⟨b, i, none⟩ = RoC i (h.own b) (F.ro ⟨b, i, none⟩) := by
  unfold Hp.cell? RoC OwnC
  cases F.ro ⟨b, i, none⟩ with
  | some v => rfl
  | none => cases h.own b with
    | none => rfl
    | some o => cases o <;> rfl
end Go.SL
namespace Go.SL
open Go.RowKit
theorem arr_getD (l : List Value) (i : Nat) (d : Value) : l.toArray.getD i d = l.getD i d := by
  simp [Array.getD_eq_getD_getElem?, List.getD_eq_getElem?_getD]
theorem getD_zero (x : Value) (l : List Value) (d : Value) : (x :: l).getD 0 d = x := rfl
theorem getD_succ (x : Value) (l : List Value) (i : Nat) (d : Value) : (x :: l).getD (i + 1) d = l.getD i d := rfl
theorem toArr (l : List Value) : l.toArray.toList = l := rfl
theorem own_set_none {h : Hp} {g g' : Nat} {o : Obj} (e : (h.set g' o).own g = none) : g ≠ g' ∧ g' ≠ g ∧ h.own g = none := by
  simp only [Hp.own_set] at e
  split at e
  · cases e
  · rename_i hn; exact ⟨hn, Ne.symm hn, e⟩
theorem cells_agg (cs : Array Value) : Value.cells (.agg cs) = cs := rfl
theorem cells_int (k : IntKind) (n : Int) : Value.cells (.int k n) = #[.int k n] := rfl
theorem cells_bool (b : Bool) : Value.cells (.bool b) = #[.bool b] := rfl
theorem cells_ptr (p : Option Addr) : Value.cells (.pointer p) = #[.pointer p] := rfl
theorem cells_slice (p : Option Addr) (n c : Nat) : Value.cells (.slice p n c) = #[.slice p n c] := rfl
theorem cells_func (f : Fn) (x y : Array Value) : Value.cells (.func f x y) = #[.func f x y] := rfl
end Go.SL
namespace Go.SL
section
variable {P : Program} {F : Fr} {h : Hp}
theorem dwp_size_of {t n : Nat} {K : Nat → Hp → Prop} (e : ∀ w, (sizeOf t).run P w = .ok n w) : dwp P F (sizeOf t) h K = K n h := by
  rw [dwp_sizeOf]
  have e1 := e default
  simp only [sizeOf, typeInfo, program, bind, Sem.bind, Sem.run] at e1
  cases ho : P.info? t with
  | none => rw [ho] at e1; simp [stuck, Sem.bind] at e1
  | some i => rw [ho] at e1; simp only [pure, Sem.bind, Sem.run, Result.ok.injEq, and_true] at e1; subst e1; rfl
theorem dwp_zero_of {t : Nat} {v : Value} {K : Value → Hp → Prop} (e : ∀ w, (zeroValue t).run P w = .ok v w) : dwp P F (zeroValue t) h K = K v h := by
  rw [dwp_zeroValue]
  have e1 := e default
  simp only [zeroValue, typeInfo, program, bind, Sem.bind, Sem.run] at e1
  cases ho : P.info? t with
  | none => rw [ho] at e1; simp [stuck, Sem.bind] at e1
  | some i =>
    rw [ho] at e1
    simp only [pure, Sem.bind] at e1
    cases hz : i.zero with
    | none => rw [hz] at e1; simp [unsupported] at e1
    | some z => rw [hz] at e1; simp only [Sem.run, Result.ok.injEq, and_true] at e1; subst e1; simp only [Option.bind_some, hz]; rfl
theorem dwp_agg_of {t : Nat} {b : Bool} {K : Bool → Hp → Prop} (e : ∀ w, (isAgg t).run P w = .ok b w) : dwp P F (isAgg t) h K = K b h := by
  rw [dwp_isAgg]
  have e1 := e default
  simp only [isAgg, underlying, program, bind, Sem.bind, Sem.run] at e1
  unfold aggT
  cases ho : P.underlying t with
  | none => rw [ho] at e1; simp [stuck, Sem.bind] at e1
  | some d =>
    rw [ho] at e1
    simp only [pure, Sem.bind] at e1
    cases d <;> simp only [Sem.run, Result.ok.injEq, and_true] at e1 <;> subst e1 <;> rfl
end
end Go.SL
