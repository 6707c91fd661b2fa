/-
  A walk over a part of memory: what a call owns and what it may read. Conditions: none. Plain theorems and definitions.
-/
import Derived.Test.YtlbpfmnobapidaaS2
import Derived.Laws.Entries
import Derived.WalkKit
set_option linter.unusedVariables false
set_option linter.unusedSimpArgs false
namespace Go.SL
open Go.RowKit
section
variable {α β : Type} {P : Program} {F : Fr} {h : Hp}

def BindK (P : Program) (F : Fr) (f : α → Sem β) (K : β → Hp → Prop) (a : α) (h : Hp) : Prop := dwp P F (f a) h K
theorem BindK_app {f : α → Sem β} {K : β → Hp → Prop} {a : α} : BindK P F f K a h = dwp P F (f a) h K := rfl
theorem dwp_bind' {s : Sem α} {f : α → Sem β} {K : β → Hp → Prop} : dwp P F (s >>= f) h K = dwp P F s h (BindK P F f K) := dwp_bind s h
theorem dwp_pure' {a : α} {K : α → Hp → Prop} : dwp P F (pure a) h K = K a h := rfl
theorem dwp_pure {a : α} {K : α → Hp → Prop} : dwp P F (Sem.pure a) h K = K a h := rfl
def CellK (K : Value → Hp → Prop) (h : Hp) : Option Value → Prop
  | some v => K v h
  | none => False
theorem CellK_some {K : Value → Hp → Prop} {v : Value} : CellK K h (some v) = K v h := rfl
theorem dwp_load' {a : Addr} {m : Mode} {K : Value → Hp → Prop} : dwp P F (load a m) h K = CellK K h (h.cell? F a) := by
  simp only [load, dwp]
  cases h.cell? F a <;> rfl
def StoreK (a : Addr) (v : Value) (K : Unit → Hp → Prop) (h : Hp) : Option Obj → Prop
  | some (.cells c t fr) => notAgg v = true ∧ a.spot = none ∧ a.off < c.size ∧ (decide (fr.1 ≤ a.off) && decide (a.off < fr.2)) = false ∧ K () (h.set a.block (.cells (c.setIfInBounds a.off v) t fr))
  | _ => False
theorem StoreK_some {a : Addr} {v : Value} {K : Unit → Hp → Prop} {c : Array Value} {t : TypeId} {fr : Nat × Nat} : StoreK a v K h (some (.cells c t fr)) =
  (notAgg v = true ∧ a.spot = none ∧ a.off < c.size ∧ (decide (fr.1 ≤ a.off) && decide (a.off < fr.2)) = false ∧ K () (h.set a.block (.cells (c.setIfInBounds a.off v) t fr))) := rfl
theorem dwp_store' {a : Addr} {v : Value} {m : Mode} {K : Unit → Hp → Prop} : dwp P F (store a v m) h K = StoreK a v K h (h.own a.block) := by
  simp only [store, dwp]
  cases h.own a.block with
  | none => rfl
  | some o => cases o <;> rfl
def NewK (F : Fr) (o : Obj) (K : Nat → Hp → Prop) (h : Hp) : Prop := ∀ g, F.w0.heap.size ≤ g → h.own g = none → K g (h.set g o)
theorem NewK.intro {o : Obj} {K : Nat → Hp → Prop} (H : ∀ g, F.w0.heap.size ≤ g → h.own g = none → K g (h.set g o)) : NewK F o K h := H
theorem dwp_newObj {o : Obj} {K : Nat → Hp → Prop} : dwp P F (newObj o) h K = NewK F o K h := rfl
theorem dwp_program {K : Program → Hp → Prop} : dwp P F program h K = K P h := rfl
theorem dwp_mark {m : Mark} {K : Unit → Hp → Prop} : dwp P F (mark m) h K = K () h := rfl
def OptK (K : α → Hp → Prop) (h : Hp) : Option α → Prop
  | some v => K v h
  | none => False
theorem OptK_some {K : α → Hp → Prop} {v : α} : OptK K h (some v) = K v h := rfl
theorem dwp_underlying {t : TypeId} {K : TypeDesc → Hp → Prop} : dwp P F (underlying t) h K = OptK K h (P.underlying t) := by
  simp only [underlying, dwp_bind', dwp_program, BindK_app]
  cases P.underlying t <;> rfl
theorem dwp_sizeOf {t : TypeId} {K : Nat → Hp → Prop} : dwp P F (sizeOf t) h K = OptK K h ((P.info? t).map (·.size)) := by
  simp only [sizeOf, typeInfo, dwp_bind', dwp_program, BindK_app]
  cases P.info? t <;> rfl
theorem dwp_zeroValue {t : TypeId} {K : Value → Hp → Prop} : dwp P F (zeroValue t) h K = OptK K h ((P.info? t).bind (·.zero)) := by
  simp only [zeroValue, typeInfo, dwp_bind', dwp_program, BindK_app]
  cases e : P.info? t with
  | none => rfl
  | some i =>
    simp only [Option.bind_some]
    show dwp P F (match i.zero with | some v => pure v | none => unsupported (.resourceLimit "a value of more than 2^22 cells")) h K = _
    cases i.zero <;> rfl
/-- Is a type an aggregate? -/
def aggT (P : Program) (t : TypeId) : Option Bool := (P.underlying t).map fun | .struct _ | .array _ _ => true | _ => false
theorem dwp_isAgg {t : TypeId} {K : Bool → Hp → Prop} : dwp P F (isAgg t) h K = OptK K h (aggT P t) := by
  simp only [isAgg, dwp_bind', dwp_underlying, aggT]
  cases P.underlying t with
  | none => rfl
  | some d => cases d <;> rfl
/-- May a function be entered? -/
def entB (P : Program) (f : FuncId) : Bool := ((P.funcs[f]?).map fun fn => !(fn.name == "runtime.NumGoroutine") && !fn.body.isNone).getD false
theorem dwp_callFunc {f : FuncId} {args : Array Value} {K : Next → Hp → Prop} (e : entB P f = true) : dwp P F (callFunc f args) h K = K (.enter f args) h := by
  unfold entB at e
  simp only [callFunc, dwp_bind', dwp_program, BindK_app]
  cases ho : P.funcs[f]? with
  | none => rw [ho] at e; simp at e
  | some fn =>
    rw [ho] at e
    simp only [Option.map_some, Option.getD_some, Bool.and_eq_true, Bool.not_eq_true'] at e
    simp only [e.1, e.2, Bool.false_eq_true, if_false]
    rfl
theorem dwp_true {K : α → Hp → Prop} {s t : Sem α} : dwp P F (if true = true then s else t) h K = dwp P F s h K := rfl
end
section
variable {P : Program} {F : Fr} {h : Hp} {o : Oper} {a : Act} {K : Act → Hp → Prop}
theorem fin_value {v : Value} : fin P F o a K (.value v) h = K (a.put o.dst v) h := rfl
theorem fin_skip : fin P F o a K .skip h = K (a.put o.dst undef) h := rfl
/-- Behind a call. -/
def CallK (o : Oper) (a : Act) (K : Act → Hp → Prop) (v : Value) (h : Hp) : Prop := K (a.put o.dst v) h
theorem CallK_app {v : Value} : CallK o a K v h = K (a.put o.dst v) h := rfl
theorem fin_round {l f : Nat} {tmps : Array Value} {assign body : Code} : fin P F o a K (.round l f tmps assign body) h = DRound P F l f tmps assign body h (CallK o a K) := rfl
theorem fin_enter {f : FuncId} {args : Array Value} : fin P F o a K (.enter f args) h = DCall P F f args h (CallK o a K) := rfl
theorem dop_def : dop P F o a h K = dwp P F (execOp a.eval o) h (fin P F o a K) := rfl
end
section
variable {P : Program} {F : Fr} {ops : Array Oper} {K : Act → Hp → Prop} {a : Act} {h : Hp} {o : Oper} {l : List Oper}
theorem dops_nil : dops P F ops K [] a h = K a h := rfl
/-- The rest of a region. -/
def Rest (P : Program) (F : Fr) (ops : Array Oper) (K : Act → Hp → Prop) (l : List Oper) (a : Act) (h : Hp) : Prop := dops P F ops K l a h
theorem Rest_app {t : Array Value} {ds : List Deferred} : Rest P F ops K l ⟨t, ds⟩ h = dops P F ops K l ⟨t, ds⟩ h := rfl
def GuardB (P : Program) (F : Fr) (ops : Array Oper) (K : Act → Hp → Prop) (o : Oper) (l : List Oper) (a : Act) (h : Hp) (b : Bool) : Option Bool → Prop
  | some c => (c = b → dop P F o a h (Rest P F ops K l)) ∧ (c = (!b) → dops P F ops K l (a.put o.dst undef) h)
  | none => dops P F ops K l (a.put o.dst undef) h
theorem GuardB_tt : GuardB P F ops K o l a h true (some true) = dop P F o a h (Rest P F ops K l) := by simp [GuardB]
theorem GuardB_ff : GuardB P F ops K o l a h false (some false) = dop P F o a h (Rest P F ops K l) := by simp [GuardB]
theorem GuardB_tf : GuardB P F ops K o l a h true (some false) = dops P F ops K l (a.put o.dst undef) h := by simp [GuardB]
theorem GuardB_ft : GuardB P F ops K o l a h false (some true) = dops P F ops K l (a.put o.dst undef) h := by simp [GuardB]
theorem GuardB_none {b : Bool} : GuardB P F ops K o l a h b none = dops P F ops K l (a.put o.dst undef) h := rfl
theorem GuardB.split {b c : Bool} (h1 : c = b → dop P F o a h (Rest P F ops K l)) (h2 : c = (!b) → dops P F ops K l (a.put o.dst undef) h) : GuardB P F ops K o l a h b (some c) := ⟨h1, h2⟩
def GuardK (P : Program) (F : Fr) (ops : Array Oper) (K : Act → Hp → Prop) (o : Oper) (l : List Oper) (a : Act) (h : Hp) : Option (Nat × Bool) → Prop
  | none => dop P F o a h (Rest P F ops K l)
  | some (j, b) => GuardB P F ops K o l a h b (yielded ops a.tmps j)
theorem GuardK_none : GuardK P F ops K o l a h none = dop P F o a h (Rest P F ops K l) := rfl
theorem GuardK_some {j : Nat} {b : Bool} : GuardK P F ops K o l a h (some (j, b)) = GuardB P F ops K o l a h b (yielded ops a.tmps j) := rfl
theorem dops_cons : dops P F ops K (o :: l) a h = GuardK P F ops K o l a h o.guard := by
  cases hg : o.guard with
  | none => simp only [dops, Region.wanted, hg, if_true, GuardK]; rfl
  | some jb =>
    obtain ⟨j, b⟩ := jb
    simp only [dops, Region.wanted, hg, GuardK]
    cases hy : yielded ops a.tmps j with
    | none => simp only [GuardB]; rw [if_neg (by simp)]
    | some c =>
      simp only [GuardB]
      cases c <;> cases b <;> simp <;> rfl
end
section
variable {P : Program} {F : Fr} {Q : Exit → Act → Hp → Prop} {K : Act → Hp → Prop} {a : Act} {h : Hp} {x y : Code}
theorem Then_normal : Then K Q .normal a h = K a h := rfl
theorem Then_exit {id : Nat} : Then K Q (.exit id) a h = Q (.exit id) a h := rfl
theorem Then_ret : Then K Q .ret a h = Q .ret a h := rfl
theorem InBlock_normal {id : Nat} : InBlock id Q .normal a h = Q .normal a h := rfl
theorem InBlock_ret {id : Nat} : InBlock id Q .ret a h = Q .ret a h := rfl
theorem InBlock_exit {id id' : Nat} : InBlock id Q (.exit id') a h = if id' = id then Q .normal a h else Q (.exit id') a h := rfl
theorem Kont_app {t : Array Value} {ds : List Deferred} : Kont P F y Q ⟨t, ds⟩ h = dcode P F y Q ⟨t, ds⟩ h := rfl
theorem dcode_skip : dcode P F .skip Q a h = Q .normal a h := rfl
theorem dcode_plain {id : Nat} {ops : List Oper} : dcode P F (.region id ops.toArray false) Q a h = dops P F ops.toArray (Q .normal) ops a h := rfl
theorem dcode_draw {id : Nat} {ops : Array Oper} : dcode P F (.region id ops true) Q a h = DDraw P F id ops (Q .normal) a h := rfl
def CondK (P : Program) (F : Fr) (x y : Code) (Q : Exit → Act → Hp → Prop) (a : Act) (h : Hp) : Value → Prop
  | .bool b => (b = true → dcode P F x Q a h) ∧ (b = false → dcode P F y Q a h)
  | _ => False
theorem dcode_cond {c : Operand} : dcode P F (.cond c x y) Q a h = CondK P F x y Q a h (a.eval c) := by
  simp only [dcode, CondK]
  rfl
theorem CondK_true : CondK P F x y Q a h (.bool true) = dcode P F x Q a h := by simp [CondK]
theorem CondK_false : CondK P F x y Q a h (.bool false) = dcode P F y Q a h := by simp [CondK]
theorem CondK.split {b : Bool} (h1 : b = true → dcode P F x Q a h) (h2 : b = false → dcode P F y Q a h) : CondK P F x y Q a h (.bool b) := ⟨h1, h2⟩
theorem dcode_block {id : Nat} : dcode P F (.block id x) Q a h = dcode P F x (InBlock id Q) a h := rfl
theorem dcode_exit {id : Nat} : dcode P F (.exit id) Q a h = Q (.exit id) a h := rfl
theorem dcode_ret : dcode P F .ret Q a h = Q .ret a h := rfl
theorem dcode_label {l : Nat} : dcode P F (.label l) Q a h = Q .normal a h := rfl
theorem dcode_loop : dcode P F (.loop x) Q a h = DLoop P F x Q a h := rfl
end
section
variable {P : Program} {F : Fr} {a : Act} {h : Hp} {K : Value → Hp → Prop} {rs : List ResultVar} {tmps : Array Value} {acc : List Value}
/-- The results, behind the marks. -/
def ResP (P : Program) (F : Fr) (tmps : Array Value) (rs : List ResultVar) (K : Value → Hp → Prop) (h : Hp) : Prop := ResK P F tmps rs [] h K
theorem ResP_app : ResP P F tmps rs K h = ResK P F tmps rs [] h K := rfl
theorem Post_ret : Post P F rs K .ret a h = DefK (ResP P F a.tmps rs K) a.defers h := rfl
theorem Post_normal : Post P F rs K .normal a h = DefK (ResP P F a.tmps rs K) a.defers h := rfl
theorem DefK_nil {k : Hp → Prop} : DefK k [] h = k h := rfl
def DefM (k : Hp → Prop) (r : Nat) (ds : List Deferred) (h : Hp) : Option Obj → Prop
  | some (.deferred (some [])) => DefK k ds (h.set r (.deferred none))
  | _ => False
theorem DefM_some {k : Hp → Prop} {r : Nat} {ds : List Deferred} : DefM k r ds h (some (.deferred (some []))) = DefK k ds (h.set r (.deferred none)) := rfl
theorem DefK_cons {k : Hp → Prop} {r : Nat} {xs : Array Value} {ds : List Deferred} : DefK k (⟨.collected r, xs⟩ :: ds) h = DefM k r ds h (h.own r) := by
  simp only [DefK, DefM]
  rfl
theorem ResK_one {v : Value} : ResK P F tmps [] [v] h K = K v h := rfl
theorem ResK_none : ResK P F tmps [] [] h K = K (.tuple #[]) h := rfl
theorem ResK_more {u v : Value} {vs : List Value} : ResK P F tmps [] (u :: v :: vs) h K = K (.tuple (u :: v :: vs).toArray) h := rfl
theorem ResK_tmp {t : Tmp} {r : List ResultVar} : ResK P F tmps (.tmp t :: r) acc h K = ResK P F tmps r (acc ++ [tmps.getD t undef]) h K := rfl
def ResC (P : Program) (F : Fr) (tmps : Array Value) (r : List ResultVar) (acc : List Value) (K : Value → Hp → Prop) (v : Value) (h : Hp) : Prop := ResK P F tmps r (acc ++ [v]) h K
theorem ResC_app {v : Value} {r : List ResultVar} : ResC P F tmps r acc K v h = ResK P F tmps r (acc ++ [v]) h K := rfl
def AdK (P : Program) (F : Fr) (tmps : Array Value) (t : TypeId) (r : List ResultVar) (acc : List Value) (h : Hp) (K : Value → Hp → Prop) : Value → Prop
  | .pointer (some ad) => dwp P F (loadVar t ad) h (ResC P F tmps r acc K)
  | _ => False
theorem ResK_cell {t : TypeId} {x : Tmp} {r : List ResultVar} : ResK P F tmps (.cell x t :: r) acc h K = AdK P F tmps t r acc h K (tmps.getD x undef) := rfl
theorem AdK_some {t : TypeId} {r : List ResultVar} {ad : Addr} : AdK P F tmps t r acc h K (.pointer (some ad)) = dwp P F (loadVar t ad) h (ResC P F tmps r acc K) := rfl
end
/-! ### What is owned -/
theorem Hp.own_set {h : Hp} {g g' : Nat} {o : Obj} : (h.set g o).own g' = if g' = g then some o else h.own g' := rfl
theorem Hp.none_own {g : Nat} : Hp.none_.own g = none := rfl
def OwnC (i : Nat) : Option Obj → Option Value
  | some (.cells c _ _) => c[i]?
  | _ => none
theorem OwnC_some {i : Nat} {c : Array Value} {t : TypeId} {fr : Nat × Nat} : OwnC i (some (.cells c t fr)) = c[i]? := rfl
def RoC (i : Nat) (o : Option Obj) : Option Value → Option Value
  | some v => some v
  | none => OwnC i o
theorem RoC_some {i : Nat} {o : Option Obj} {v : Value} : RoC i o (some v) = some v := rfl
theorem RoC_none {i : Nat} {o : Option Obj} : RoC i o none = OwnC i o := rfl
theorem Hp.cell_def {h : Hp} {F : Fr} {b i : Nat} : h.cell? F ⟨b, i, none⟩ = RoC i (h.own b) (F.ro ⟨b, i, none⟩) := by
  unfold Hp.cell? RoC OwnC
  cases F.ro ⟨b, i, none⟩ with
  | some v => rfl
  | none => cases h.own b with
    | none => rfl
    | some o => cases o <;> rfl
end Go.SL
namespace Go.SL
open Go.RowKit
theorem arr_getD (l : List Value) (i : Nat) (d : Value) : l.toArray.getD i d = l.getD i d := by
  simp [Array.getD_eq_getD_getElem?, List.getD_eq_getElem?_getD]
theorem getD_zero (x : Value) (l : List Value) (d : Value) : (x :: l).getD 0 d = x := rfl
theorem getD_succ (x : Value) (l : List Value) (i : Nat) (d : Value) : (x :: l).getD (i + 1) d = l.getD i d := rfl
theorem toArr (l : List Value) : l.toArray.toList = l := rfl
theorem own_set_none {h : Hp} {g g' : Nat} {o : Obj} (e : (h.set g' o).own g = none) : g ≠ g' ∧ g' ≠ g ∧ h.own g = none := by
  simp only [Hp.own_set] at e
  split at e
  · cases e
  · rename_i hn; exact ⟨hn, Ne.symm hn, e⟩
theorem cells_agg (cs : Array Value) : Value.cells (.agg cs) = cs := rfl
theorem cells_int (k : IntKind) (n : Int) : Value.cells (.int k n) = #[.int k n] := rfl
theorem cells_bool (b : Bool) : Value.cells (.bool b) = #[.bool b] := rfl
theorem cells_ptr (p : Option Addr) : Value.cells (.pointer p) = #[.pointer p] := rfl
theorem cells_slice (p : Option Addr) (n c : Nat) : Value.cells (.slice p n c) = #[.slice p n c] := rfl
theorem cells_func (f : Fn) (x y : Array Value) : Value.cells (.func f x y) = #[.func f x y] := rfl
end Go.SL
namespace Go.SL
section
variable {P : Program} {F : Fr} {h : Hp}
theorem dwp_size_of {t n : Nat} {K : Nat → Hp → Prop} (e : ∀ w, (sizeOf t).run P w = .ok n w) : dwp P F (sizeOf t) h K = K n h := by
  rw [dwp_sizeOf]
  have e1 := e default
  simp only [sizeOf, typeInfo, program, bind, Sem.bind, Sem.run] at e1
  cases ho : P.info? t with
  | none => rw [ho] at e1; simp [stuck, Sem.bind] at e1
  | some i => rw [ho] at e1; simp only [pure, Sem.bind, Sem.run, Result.ok.injEq, and_true] at e1; subst e1; rfl
theorem dwp_zero_of {t : Nat} {v : Value} {K : Value → Hp → Prop} (e : ∀ w, (zeroValue t).run P w = .ok v w) : dwp P F (zeroValue t) h K = K v h := by
  rw [dwp_zeroValue]
  have e1 := e default
  simp only [zeroValue, typeInfo, program, bind, Sem.bind, Sem.run] at e1
  cases ho : P.info? t with
  | none => rw [ho] at e1; simp [stuck, Sem.bind] at e1
  | some i =>
    rw [ho] at e1
    simp only [pure, Sem.bind] at e1
    cases hz : i.zero with
    | none => rw [hz] at e1; simp [unsupported] at e1
    | some z => rw [hz] at e1; simp only [Sem.run, Result.ok.injEq, and_true] at e1; subst e1; simp only [Option.bind_some, hz]; rfl
theorem dwp_agg_of {t : Nat} {b : Bool} {K : Bool → Hp → Prop} (e : ∀ w, (isAgg t).run P w = .ok b w) : dwp P F (isAgg t) h K = K b h := by
  rw [dwp_isAgg]
  have e1 := e default
  simp only [isAgg, underlying, program, bind, Sem.bind, Sem.run] at e1
  unfold aggT
  cases ho : P.underlying t with
  | none => rw [ho] at e1; simp [stuck, Sem.bind] at e1
  | some d =>
    rw [ho] at e1
    simp only [pure, Sem.bind] at e1
    cases d <;> simp only [Sem.run, Result.ok.injEq, and_true] at e1 <;> subst e1 <;> rfl
end
end Go.SL
set_option linter.unusedSimpArgs false
namespace Go.SL
open Go.RowKit
/-- Values laid into a list of cells from a place on. -/
def putAt (cells : List Value) (off : Nat) : List Value → List Value
  | [] => cells
  | x :: xs => putAt (cells.set off x) (off + 1) xs
theorem putAt_nil {cells : List Value} {off : Nat} : putAt cells off [] = cells := rfl
theorem putAt_cons {cells : List Value} {off : Nat} {x : Value} {xs : List Value} : putAt cells off (x :: xs) = putAt (cells.set off x) (off + 1) xs := rfl
theorem putAt_length : ∀ (xs : List Value) (cells : List Value) (off : Nat), (putAt cells off xs).length = cells.length := by
  intro xs
  induction xs with
  | nil => exact fun _ _ => rfl
  | cons x xs ih => intro cells off; rw [putAt_cons, ih]; simp
def fillL (place : Nat → Option (Nat × Nat)) (cells : List Value) : List (Nat × Value) → Option (List Value)
  | [] => some cells
  | (i, v) :: r => match place i with
    | none => none
    | some (off, size) => if v.cells.size = size ∧ off + size ≤ cells.length then fillL place (putAt cells off v.cells.toList) r else none
theorem foldl_putAt : ∀ (xs : List Value) (cells : List Value) (off k : Nat),
    ((xs.zipIdx k).foldl (fun (cs : Array Value) (x : Value × Nat) => cs.setIfInBounds (off + x.2) x.1) cells.toArray) = (putAt cells (off + k) xs).toArray := by
  intro xs
  induction xs with
  | nil => exact fun _ _ _ => rfl
  | cons x xs ih =>
    intro cells off k
    simp only [List.zipIdx_cons, List.foldl_cons, List.setIfInBounds_toArray]
    rw [ih (cells.set (off + k) x) off (k + 1), putAt_cons]
    rfl
theorem fill_eq (place : Nat → Option (Nat × Nat)) : ∀ (parts : List (Nat × Value)) (cells : List Value), Instr.fill place cells.toArray parts = (fillL place cells parts).map List.toArray := by
  intro parts
  induction parts with
  | nil => exact fun _ => rfl
  | cons p r ih =>
    intro cells
    obtain ⟨i, v⟩ := p
    simp only [Instr.fill, fillL]
    cases place i with
    | none => rfl
    | some os =>
      obtain ⟨off, size⟩ := os
      simp only
      by_cases h1 : v.cells.size = size
      · by_cases h2 : off + size ≤ cells.length
        · rw [if_neg (by simp only [h1, List.size_toArray]; simp; omega), if_pos ⟨h1, h2⟩]
          rw [← ih]
          congr 1
          have := foldl_putAt v.cells.toList cells off 0
          rw [Nat.add_zero] at this
          rw [← this, ← Array.foldl_toList, Array.toList_zipIdx]
        · rw [if_pos (by simp only [h1, List.size_toArray]; simp; omega), if_neg (fun h => h2 h.2)]
          rfl
      · rw [if_pos (by simp [h1]), if_neg (fun h => h1 h.1)]
        rfl
/-- The cells of so many zero values. -/
def cyc (z : List Value) : Nat → Nat → List Value
  | _, 0 => []
  | i, n + 1 => (z[i % z.length]?).getD default :: cyc z (i + 1) n
theorem cyc_zero {z : List Value} {i : Nat} : cyc z i 0 = [] := rfl
theorem cyc_succ {z : List Value} {i n : Nat} : cyc z i (n + 1) = (z[i % z.length]?).getD default :: cyc z (i + 1) n := rfl
theorem cyc_eq (z : List Value) : ∀ (n i : Nat), cyc z i n = (List.range' i n).map (fun k => (z[k % z.length]?).getD default) := by
  intro n
  induction n with
  | zero => exact fun _ => rfl
  | succ n ih => intro i; rw [cyc_succ, ih, List.range'_succ, List.map_cons]
theorem range_cyc (z : Array Value) (n : Nat) : (Array.range n).map (fun i => z[i % z.size]!) = (cyc z.toList 0 n).toArray := by
  rw [cyc_eq]
  apply Array.ext'
  simp only [Array.toList_map, Array.toList_range, List.range_eq_range', Array.length_toList]
  apply List.map_congr_left
  intro k _
  rw [getElem!_def]
  simp only [Array.getElem?_toList]
  cases z[k % z.size]? <;> rfl
section
variable {P : Program} {F : Fr} {h : Hp} {a : Act} {K : Act → Hp → Prop} {dst : Option Tmp} {ty : TypeId} {pos : String} {af : Array Edge} {g : Option (Nat × Bool)}
/-- A new row of cells is made, its slice put into a slot. -/
def RowK (F : Fr) (a : Act) (dst : Option Tmp) (K : Act → Hp → Prop) (elem len cap : Nat) (h : Hp) : Option (List Value) → Prop
  | some cs => NewK F (.cells cs.toArray elem) (fun g h' => K (a.put dst (.slice (some ⟨g, 0, none⟩) len cap)) h') h
  | none => False
def RowN (a : Act) (dst : Option Tmp) (K : Act → Hp → Prop) (len cap : Nat) (g : Nat) (h : Hp) : Prop := K (a.put dst (.slice (some ⟨g, 0, none⟩) len cap)) h
theorem RowN_app {len cap g : Nat} : RowN a dst K len cap g h = K (a.put dst (.slice (some ⟨g, 0, none⟩) len cap)) h := rfl
theorem RowK_some {elem len cap : Nat} {cs : List Value} : RowK F a dst K elem len cap h (some cs) = NewK F (.cells cs.toArray elem) (RowN a dst K len cap) h := rfl
def BS3 (F : Fr) (a : Act) (dst : Option Tmp) (K : Act → Hp → Prop) (elem size len : Nat) (parts : List (Nat × Value)) (z : Value) (h : Hp) : Prop :=
  RowK F a dst K elem len len h (fillL (fun i => some (i * size, size)) (cyc z.cells.toList 0 (len * size)) parts)
theorem BS3_app {elem size len : Nat} {parts : List (Nat × Value)} {z : Value} : BS3 F a dst K elem size len parts z h = RowK F a dst K elem len len h (fillL (fun i => some (i * size, size)) (cyc z.cells.toList 0 (len * size)) parts) := rfl
def BS2 (P : Program) (F : Fr) (a : Act) (dst : Option Tmp) (K : Act → Hp → Prop) (elem len : Nat) (parts : List (Nat × Value)) (size : Nat) (h : Hp) : Prop :=
  len * size ≤ 16777216 ∧ if len * size = 0 then RowK F a dst K elem len len h (fillL (fun i => some (i * size, size)) [] parts) else dwp P F (zeroValue elem) h (BS3 F a dst K elem size len parts)
theorem BS2_app {elem size len : Nat} {parts : List (Nat × Value)} : BS2 P F a dst K elem len parts size h =
  (len * size ≤ 16777216 ∧ if len * size = 0 then RowK F a dst K elem len len h (fillL (fun i => some (i * size, size)) [] parts) else dwp P F (zeroValue elem) h (BS3 F a dst K elem size len parts)) := rfl
def BS1 (P : Program) (F : Fr) (a : Act) (dst : Option Tmp) (K : Act → Hp → Prop) (len : Nat) (parts : List (Nat × Value)) : TypeDesc → Hp → Prop
  | .slice elem, h => dwp P F (sizeOf elem) h (BS2 P F a dst K elem len parts)
  | _, _ => False
theorem BS1_app {elem len : Nat} {parts : List (Nat × Value)} : BS1 P F a dst K len parts (.slice elem) h = dwp P F (sizeOf elem) h (BS2 P F a dst K elem len parts) := rfl

theorem dop_buildSlice {t len : Nat} {parts : Array (Nat × Operand)} :
    dwp P F (underlying t) h (BS1 P F a dst K len (parts.toList.map fun p => (p.1, a.eval p.2))) → dop P F ⟨dst, .buildSlice t len parts, ty, pos, af, g⟩ a h K := by
  intro H
  unfold dop
  simp only [execOp, Instr.buildSlice]
  rw [dwp_bind', dwp_bind']
  refine dwp_mono (fun d h1 H1 => ?_) _ _ H
  cases d <;> simp only [BS1] at H1
  rename_i elem
  show dwp P F (_ >>= _) h1 _
  rw [dwp_bind']
  refine dwp_mono (fun size h2 H2 => ?_) _ _ H1
  simp only [BS2] at H2
  obtain ⟨hle, H2⟩ := H2
  show dwp P F (if len * size > 2 ^ 24 then _ else _) h2 _
  rw [if_neg (by omega)]
  have fin_ : ∀ (cs : List Value) (h3 : Hp), RowK F a dst K elem len len h3 (fillL (fun i => some (i * size, size)) cs (parts.toList.map fun p => (p.1, a.eval p.2))) →
      dwp P F (match Instr.fill (fun i => some (i * size, size)) cs.toArray ((parts.map fun x => (x.1, a.eval x.2)).toList) with
        | some cells => (do let r ← newRow elem cells; pure (Value.slice (some r) len len) : Sem Value)
        | _ => stuck "buildSlice: a part of the wrong size") h3 (BindK P F (fun v => pure (Next.value v)) (fin P F ⟨dst, .buildSlice t len parts, ty, pos, af, g⟩ a K)) := by
    intro cs h3 H3
    rw [fill_eq]
    have hm : (parts.map fun x => (x.1, a.eval x.2)).toList = parts.toList.map fun p => (p.1, a.eval p.2) := by simp
    rw [hm]
    cases hf : fillL (fun i => some (i * size, size)) cs (parts.toList.map fun p => (p.1, a.eval p.2)) with
    | none => rw [hf] at H3; exact H3.elim
    | some cells => rw [hf] at H3; exact H3
  by_cases hz : len * size = 0
  · rw [if_pos hz] at H2
    have h0 : ∀ f : Nat → Value, (Array.range 0).map f = #[] := fun f => by simp
    simp only [hz, if_true, pure_bind, h0]
    exact fin_ [] h2 H2
  · rw [if_neg hz] at H2
    simp only [hz, if_false]
    show dwp P F (_ >>= _) h2 _
    rw [dwp_bind']
    refine dwp_mono (fun z h3 H3 => ?_) _ _ H2
    show dwp P F (match Instr.fill (fun i => some (i * size, size)) ((Array.range (len * size)).map fun i => z.cells[i % z.cells.size]!) _ with | some cells => _ | _ => _) h3 _
    rw [range_cyc]
    exact fin_ _ h3 H3

/-! ### A struct or an array out of its parts -/
def BD3 (a : Act) (dst : Option Tmp) (K : Act → Hp → Prop) (h : Hp) : Option (List Value) → Prop
  | some cs => K (a.put dst (.agg cs.toArray)) h
  | none => False
theorem BD3_some {cs : List Value} : BD3 a dst K h (some cs) = K (a.put dst (.agg cs.toArray)) h := rfl
/-- Where the fields lie: their places and sizes, one behind the other. -/
def PlK (P : Program) (F : Fr) (a : Act) (dst : Option Tmp) (K : Act → Hp → Prop) (z : List Value) (parts : List (Nat × Value)) : List Field → List (Nat × Nat) → Hp → Prop
  | [], acc, h => BD3 a dst K h (fillL (fun i => acc[i]?) z parts)
  | f :: r, acc, h => dwp P F (sizeOf f.type) h (fun s h' => PlK P F a dst K z parts r (acc ++ [(f.offset, s)]) h')
theorem PlK_nil {z : List Value} {parts : List (Nat × Value)} {acc : List (Nat × Nat)} : PlK P F a dst K z parts [] acc h = BD3 a dst K h (fillL (fun i => acc[i]?) z parts) := rfl
def PlC (P : Program) (F : Fr) (a : Act) (dst : Option Tmp) (K : Act → Hp → Prop) (z : List Value) (parts : List (Nat × Value)) (r : List Field) (acc : List (Nat × Nat)) (o s : Nat) (h : Hp) : Prop := PlK P F a dst K z parts r (acc ++ [(o, s)]) h
theorem PlC_app {z : List Value} {parts : List (Nat × Value)} {acc : List (Nat × Nat)} {r : List Field} {o s : Nat} : PlC P F a dst K z parts r acc o s h = PlK P F a dst K z parts r (acc ++ [(o, s)]) h := rfl
theorem PlK_cons {z : List Value} {parts : List (Nat × Value)} {acc : List (Nat × Nat)} {f : Field} {r : List Field} : PlK P F a dst K z parts (f :: r) acc h = dwp P F (sizeOf f.type) h (PlC P F a dst K z parts r acc f.offset) := rfl
def BD2 (P : Program) (F : Fr) (a : Act) (dst : Option Tmp) (K : Act → Hp → Prop) (z : List Value) (parts : List (Nat × Value)) : TypeDesc → Hp → Prop
  | .struct fields, h => PlK P F a dst K z parts fields.toList [] h
  | .array _ elem, h => dwp P F (sizeOf elem) h (fun s h' => BD3 a dst K h' (fillL (fun i => some (i * s, s)) z parts))
  | _, _ => False
def BDA (a : Act) (dst : Option Tmp) (K : Act → Hp → Prop) (z : List Value) (parts : List (Nat × Value)) (s : Nat) (h : Hp) : Prop := BD3 a dst K h (fillL (fun i => some (i * s, s)) z parts)
theorem BDA_app {z : List Value} {parts : List (Nat × Value)} {s : Nat} : BDA a dst K z parts s h = BD3 a dst K h (fillL (fun i => some (i * s, s)) z parts) := rfl
theorem BD2_struct {z : List Value} {parts : List (Nat × Value)} {fields : List Field} : BD2 P F a dst K z parts (.struct fields.toArray) h = PlK P F a dst K z parts fields [] h := rfl
theorem BD2_array {z : List Value} {parts : List (Nat × Value)} {n elem : Nat} : BD2 P F a dst K z parts (.array n elem) h = dwp P F (sizeOf elem) h (BDA a dst K z parts) := rfl
def BD1 (P : Program) (F : Fr) (a : Act) (dst : Option Tmp) (K : Act → Hp → Prop) (t : TypeId) (parts : List (Nat × Value)) (z : Value) (h : Hp) : Prop := dwp P F (underlying t) h (BD2 P F a dst K z.cells.toList parts)
theorem BD1_app {t : TypeId} {parts : List (Nat × Value)} {z : Value} : BD1 P F a dst K t parts z h = dwp P F (underlying t) h (BD2 P F a dst K z.cells.toList parts) := rfl

theorem dwp_places {β : Type} {f : List (Nat × Nat) → Sem β} {KK : β → Hp → Prop} (z : List Value) (parts : List (Nat × Value)) (hf : ∀ l h, BD3 a dst K h (fillL (fun i => l[i]?) z parts) → dwp P F (f l) h KK) :
    ∀ (l : List Field) (acc : List (Nat × Nat)) (h : Hp), PlK P F a dst K z parts l acc h →
      dwp P F (l.mapM (fun (x : Field) => (do pure (x.offset, ← sizeOf x.type) : Sem (Nat × Nat))) >>= fun r => f (acc ++ r)) h KK := by
  intro l
  induction l with
  | nil => intro acc h hh; rw [List.mapM_nil, pure_bind, List.append_nil]; exact hf _ _ hh
  | cons x l ih =>
    intro acc h hh
    rw [List.mapM_cons]
    simp only [bind_assoc, pure_bind]
    rw [dwp_bind']
    refine dwp_mono (fun s h1 H1 => ?_) _ _ hh
    have := ih _ _ H1
    simp only [List.append_assoc, List.singleton_append] at this
    exact this

theorem dop_build {t : TypeId} {parts : Array (Nat × Operand)} :
    dwp P F (zeroValue t) h (BD1 P F a dst K t (parts.toList.map fun p => (p.1, a.eval p.2))) → dop P F ⟨dst, .build t parts, ty, pos, af, g⟩ a h K := by
  intro H
  unfold dop
  simp only [execOp, Instr.build]
  rw [dwp_bind', dwp_bind']
  refine dwp_mono (fun z h1 H1 => ?_) _ _ H
  show dwp P F (underlying t >>= _) h1 _
  rw [dwp_bind']
  refine dwp_mono (fun d h2 H2 => ?_) _ _ H1
  have hm : (parts.map fun x => (x.1, a.eval x.2)).toList = parts.toList.map fun p => (p.1, a.eval p.2) := by simp
  have fin_ : ∀ (why : String) (pl : Nat → Option (Nat × Nat)) (h3 : Hp), BD3 a dst K h3 (fillL pl z.cells.toList (parts.toList.map fun p => (p.1, a.eval p.2))) →
      dwp P F (match Instr.fill pl z.cells ((parts.map fun x => (x.1, a.eval x.2)).toList) with
        | some cells => (pure (Value.agg cells) : Sem Value)
        | _ => stuck why) h3 (BindK P F (fun v => pure (Next.value v)) (fin P F ⟨dst, .build t parts, ty, pos, af, g⟩ a K)) := by
    intro why pl h3 H3
    rw [show z.cells = z.cells.toList.toArray by simp, fill_eq, hm]
    cases hf : fillL pl z.cells.toList (parts.toList.map fun p => (p.1, a.eval p.2)) with
    | none => rw [hf] at H3; exact H3.elim
    | some cells => rw [hf] at H3; exact H3
  cases d <;> simp only [BD2] at H2
  · show dwp P F (_ >>= _) h2 _
    rw [dwp_bind']
    refine dwp_mono (fun s h3 H3 => ?_) _ _ H2
    exact fin_ _ _ h3 H3
  · rename_i fields
    show dwp P F ((fields.mapM _) >>= _) h2 _
    rw [Array.mapM_eq_mapM_toList]
    simp only [map_eq_pure_bind, bind_assoc, pure_bind]
    have := dwp_places (P := P) (F := F) (a := a) (K := K) (dst := dst) (f := fun l => (match Instr.fill (fun i => l.toArray[i]?) z.cells ((parts.map fun x => (x.1, a.eval x.2)).toList) with
        | some cells => (pure (Value.agg cells) : Sem Value)
        | _ => stuck "build: no such field, or a part of the wrong size")) (KK := BindK P F (fun v => pure (Next.value v)) (fin P F ⟨dst, .build t parts, ty, pos, af, g⟩ a K)) z.cells.toList (parts.toList.map fun p => (p.1, a.eval p.2))
      (fun l h hh => fin_ _ _ h (by simpa only [List.getElem?_toArray] using hh)) fields.toList [] h2 H2
    simp only [List.nil_append] at this
    exact this
end
end Go.SL

namespace Go.SL
open Go.RowKit
section
variable {P : Program} {F : Fr} {h : Hp} {a : Act} {K : Act → Hp → Prop} {dst : Option Tmp} {ty : TypeId} {pos : String} {af : Array Edge} {g : Option (Nat × Bool)}
theorem dop_makeMap (t : TypeId) (r : Option Operand) : dop P F ⟨dst, .makeMap t r, ty, pos, af, g⟩ a h K = dwp P F (execOp a.eval ⟨dst, .makeMap t r, ty, pos, af, g⟩) h (fin P F ⟨dst, .makeMap t r, ty, pos, af, g⟩ a K) := rfl
theorem dop_makeSlice (t : TypeId) (x y : Operand) : dop P F ⟨dst, .makeSlice t x y, ty, pos, af, g⟩ a h K = dwp P F (execOp a.eval ⟨dst, .makeSlice t x y, ty, pos, af, g⟩) h (fin P F ⟨dst, .makeSlice t x y, ty, pos, af, g⟩ a K) := rfl
theorem dop_nilCheck (x : Operand) : dop P F ⟨dst, .nilCheck x, ty, pos, af, g⟩ a h K = dwp P F (execOp a.eval ⟨dst, .nilCheck x, ty, pos, af, g⟩) h (fin P F ⟨dst, .nilCheck x, ty, pos, af, g⟩ a K) := rfl
theorem dop_binOp (b : BinOp) (t : TypeId) (x y : Operand) (u : TypeId) : dop P F ⟨dst, .binOp b t x y u, ty, pos, af, g⟩ a h K = dwp P F (execOp a.eval ⟨dst, .binOp b t x y u, ty, pos, af, g⟩) h (fin P F ⟨dst, .binOp b t x y u, ty, pos, af, g⟩ a K) := rfl
theorem dop_unOp (b : UnOp) (t : TypeId) (x : Operand) : dop P F ⟨dst, .unOp b t x, ty, pos, af, g⟩ a h K = dwp P F (execOp a.eval ⟨dst, .unOp b t x, ty, pos, af, g⟩) h (fin P F ⟨dst, .unOp b t x, ty, pos, af, g⟩ a K) := rfl
theorem dop_convert (s d : TypeId) (x : Operand) : dop P F ⟨dst, .convert s d x, ty, pos, af, g⟩ a h K = dwp P F (execOp a.eval ⟨dst, .convert s d x, ty, pos, af, g⟩) h (fin P F ⟨dst, .convert s d x, ty, pos, af, g⟩ a K) := rfl
theorem dop_makeInterface (t : TypeId) (x : Operand) : dop P F ⟨dst, .makeInterface t x, ty, pos, af, g⟩ a h K = dwp P F (execOp a.eval ⟨dst, .makeInterface t x, ty, pos, af, g⟩) h (fin P F ⟨dst, .makeInterface t x, ty, pos, af, g⟩ a K) := rfl
theorem dop_makeFunc (f : Fn) (x y : Array Operand) : dop P F ⟨dst, .makeFunc f x y, ty, pos, af, g⟩ a h K = dwp P F (execOp a.eval ⟨dst, .makeFunc f x y, ty, pos, af, g⟩) h (fin P F ⟨dst, .makeFunc f x y, ty, pos, af, g⟩ a K) := rfl
theorem dop_slice (t : TypeId) (x : Operand) (l m n : Option Operand) : dop P F ⟨dst, .slice t x l m n, ty, pos, af, g⟩ a h K = dwp P F (execOp a.eval ⟨dst, .slice t x l m n, ty, pos, af, g⟩) h (fin P F ⟨dst, .slice t x l m n, ty, pos, af, g⟩ a K) := rfl
theorem dop_fieldAddr (t : TypeId) (x : Operand) (i : Nat) : dop P F ⟨dst, .fieldAddr t x i, ty, pos, af, g⟩ a h K = dwp P F (execOp a.eval ⟨dst, .fieldAddr t x i, ty, pos, af, g⟩) h (fin P F ⟨dst, .fieldAddr t x i, ty, pos, af, g⟩ a K) := rfl
theorem dop_field (t : TypeId) (x : Operand) (i : Nat) : dop P F ⟨dst, .field t x i, ty, pos, af, g⟩ a h K = dwp P F (execOp a.eval ⟨dst, .field t x i, ty, pos, af, g⟩) h (fin P F ⟨dst, .field t x i, ty, pos, af, g⟩ a K) := rfl
theorem dop_indexAddr (t : TypeId) (x y : Operand) : dop P F ⟨dst, .indexAddr t x y, ty, pos, af, g⟩ a h K = dwp P F (execOp a.eval ⟨dst, .indexAddr t x y, ty, pos, af, g⟩) h (fin P F ⟨dst, .indexAddr t x y, ty, pos, af, g⟩ a K) := rfl
theorem dop_index (t : TypeId) (x y : Operand) : dop P F ⟨dst, .index t x y, ty, pos, af, g⟩ a h K = dwp P F (execOp a.eval ⟨dst, .index t x y, ty, pos, af, g⟩) h (fin P F ⟨dst, .index t x y, ty, pos, af, g⟩ a K) := rfl
theorem dop_lookup (t : TypeId) (x y : Operand) (b : Bool) : dop P F ⟨dst, .lookup t x y b, ty, pos, af, g⟩ a h K = dwp P F (execOp a.eval ⟨dst, .lookup t x y b, ty, pos, af, g⟩) h (fin P F ⟨dst, .lookup t x y b, ty, pos, af, g⟩ a K) := rfl
theorem dop_mapUpdate (t : TypeId) (x y z : Operand) : dop P F ⟨dst, .mapUpdate t x y z, ty, pos, af, g⟩ a h K = dwp P F (execOp a.eval ⟨dst, .mapUpdate t x y z, ty, pos, af, g⟩) h (fin P F ⟨dst, .mapUpdate t x y z, ty, pos, af, g⟩ a K) := rfl
theorem dop_extract (x : Operand) (i : Nat) : dop P F ⟨dst, .extract x i, ty, pos, af, g⟩ a h K = dwp P F (execOp a.eval ⟨dst, .extract x i, ty, pos, af, g⟩) h (fin P F ⟨dst, .extract x i, ty, pos, af, g⟩ a K) := rfl
theorem dop_call (c : Call) : dop P F ⟨dst, .call c, ty, pos, af, g⟩ a h K = dwp P F (execOp a.eval ⟨dst, .call c, ty, pos, af, g⟩) h (fin P F ⟨dst, .call c, ty, pos, af, g⟩ a K) := rfl
theorem dop_load (t : TypeId) (x : Operand) : dop P F ⟨dst, .load t x, ty, pos, af, g⟩ a h K = dwp P F (execOp a.eval ⟨dst, .load t x, ty, pos, af, g⟩) h (fin P F ⟨dst, .load t x, ty, pos, af, g⟩ a K) := rfl
theorem dop_store (t : TypeId) (x y : Operand) : dop P F ⟨dst, .store t x y, ty, pos, af, g⟩ a h K = dwp P F (execOp a.eval ⟨dst, .store t x y, ty, pos, af, g⟩) h (fin P F ⟨dst, .store t x y, ty, pos, af, g⟩ a K) := rfl
theorem dop_move (x : Operand) : dop P F ⟨dst, .move x, ty, pos, af, g⟩ a h K = K (a.put dst (a.eval x)) h := rfl
theorem dop_assign (x : Operand) : dop P F ⟨dst, .assign x, ty, pos, af, g⟩ a h K = K (a.put dst (a.eval x)) h := rfl
def PickK (a : Act) (dst : Option Tmp) (K : Act → Hp → Prop) (x y : Value) (h : Hp) : Value → Prop
  | .bool b => K (a.put dst (if b then x else y)) h
  | _ => False
theorem PickK_true {x y : Value} : PickK a dst K x y h (.bool true) = K (a.put dst x) h := rfl
theorem PickK_false {x y : Value} : PickK a dst K x y h (.bool false) = K (a.put dst y) h := rfl
theorem PickK.split {x y : Value} {b : Bool} (h1 : b = true → K (a.put dst x) h) (h2 : b = false → K (a.put dst y) h) : PickK a dst K x y h (.bool b) := by
  cases b
  · exact h2 rfl
  · exact h1 rfl
theorem dop_pick (c x y : Operand) : dop P F ⟨dst, .pick c x y, ty, pos, af, g⟩ a h K = PickK a dst K (a.eval x) (a.eval y) h (a.eval c) := by
  unfold dop
  simp only [execOp]
  cases a.eval c <;> rfl
/-- A new variable. -/
def PtrN (a : Act) (dst : Option Tmp) (K : Act → Hp → Prop) (g : Nat) (h : Hp) : Prop := K (a.put dst (.pointer (some ⟨g, 0, none⟩))) h
theorem PtrN_app {g : Nat} : PtrN a dst K g h = K (a.put dst (.pointer (some ⟨g, 0, none⟩))) h := rfl
theorem dop_box (t : TypeId) (x : Operand) : dop P F ⟨dst, .box t x, ty, pos, af, g⟩ a h K = NewK F (.cells (a.eval x).cells t) (PtrN a dst K) h := rfl
def AlZ (F : Fr) (a : Act) (dst : Option Tmp) (K : Act → Hp → Prop) (t : TypeId) (z : Value) (h : Hp) : Prop := NewK F (.cells z.cells t) (PtrN a dst K) h
theorem AlZ_app {t : TypeId} {z : Value} : AlZ F a dst K t z h = NewK F (.cells z.cells t) (PtrN a dst K) h := rfl
theorem dop_alloc (t : TypeId) : dop P F ⟨dst, .alloc t, ty, pos, af, g⟩ a h K = dwp P F (zeroValue t) h (AlZ F a dst K t) := by
  unfold dop
  simp only [execOp, Instr.alloc, newVar, newRow]
  rw [dwp_bind', dwp_bind']
  congr 1
end
theorem set_set {h : Hp} {g : Nat} {o o' : Obj} : (h.set g o).set g o' = h.set g o' := by
  unfold Hp.set
  congr 1
  funext k
  by_cases e : k = g <;> simp [e]
end Go.SL
