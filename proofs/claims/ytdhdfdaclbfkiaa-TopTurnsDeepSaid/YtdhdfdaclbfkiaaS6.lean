/-
  A walk over a part of memory, sixth part: how a region that draws reads, step by step.
  Conditions: none. Plain theorems and definitions.
-/
import Derived.Test.YtdhdfdaclbfkiaaS5
set_option linter.unusedSimpArgs false
namespace Go.SL
open Go.RowKit
section
variable {α β : Type} {P : Program} {F : Fr} {h S : Hp}
/-! ### Trees that only read -/
def RB (P : Program) (F : Fr) (S : Hp) (f : α → Sem β) : Option α → Option β
  | some a => rval P F (f a) S
  | none => none
theorem RB_some {f : α → Sem β} {a : α} : RB P F S f (some a) = rval P F (f a) S := rfl
theorem rval_bind' {s : Sem α} {f : α → Sem β} : rval P F (s >>= f) S = RB P F S f (rval P F s S) := by
  show rval P F (s.bind f) S = _
  rw [rval_bind]
  cases rval P F s S <;> rfl
theorem rval_pure' {a : α} : rval P F (pure a) S = some a := rfl
theorem rval_load' {a : Addr} {m : Mode} : rval P F (load a m) S = S.cell? F a := by
  simp only [load, rval]
  cases S.cell? F a <;> rfl
theorem rval_program : rval P F program S = some P := rfl
theorem rval_true {s t : Sem α} : rval P F (if true = true then s else t) S = rval P F s S := rfl
theorem rval_un {t : TypeId} {d : TypeDesc} (e : P.underlying t = some d) : rval P F (underlying t) S = some d := by
  simp only [underlying, rval_bind', rval_program, RB_some, e]; rfl
theorem rval_size {t n : Nat} (e : ∀ w, (sizeOf t).run P w = .ok n w) : rval P F (sizeOf t) S = some n := by
  have e1 := e default
  simp only [sizeOf, typeInfo, rval_bind', rval_program, RB_some] at e1 ⊢
  simp only [program, bind, Sem.bind, Sem.run] at e1
  cases ho : P.info? t with
  | none => rw [ho] at e1; simp [stuck, Sem.bind] at e1
  | some i => rw [ho] at e1; simp only [pure, Sem.bind, Sem.run, Result.ok.injEq, and_true] at e1; subst e1; rfl
theorem rval_zero {t : Nat} {v : Value} (e : ∀ w, (zeroValue t).run P w = .ok v w) : rval P F (zeroValue t) S = some v := by
  have e1 := e default
  simp only [zeroValue, typeInfo, rval_bind', rval_program, RB_some] at e1 ⊢
  simp only [program, bind, Sem.bind, Sem.run] at e1
  cases ho : P.info? t with
  | none => rw [ho] at e1; simp [stuck, Sem.bind] at e1
  | some i =>
    rw [ho] at e1
    simp only [pure, Sem.bind] at e1
    cases hz : i.zero with
    | none => rw [hz] at e1; simp [unsupported] at e1
    | some z =>
      rw [hz] at e1; simp only [Sem.run, Result.ok.injEq, and_true] at e1; subst e1
      show RB P F S _ (some i) = _
      simp only [RB_some, hz]
      rfl
theorem rval_agg {t : Nat} {b : Bool} (e : ∀ w, (isAgg t).run P w = .ok b w) : rval P F (isAgg t) S = some b := by
  have e1 := e default
  simp only [isAgg, underlying, rval_bind', rval_program, RB_some] at e1 ⊢
  simp only [program, bind, Sem.bind, Sem.run] at e1
  cases ho : P.underlying t with
  | none => rw [ho] at e1; simp [stuck, Sem.bind] at e1
  | some d =>
    rw [ho] at e1
    simp only [pure, Sem.bind] at e1
    show RB P F S _ (some d) = _
    cases d <;> simp only [Sem.run, Result.ok.injEq, and_true] at e1 <;> subst e1 <;> rfl
theorem rval_callFunc {f : FuncId} {args : Array Value} (e : entB P f = true) : rval P F (callFunc f args) S = some (.enter f args) := by
  unfold entB at e
  simp only [callFunc, rval_bind', rval_program, RB_some]
  cases ho : P.funcs[f]? with
  | none => rw [ho] at e; simp at e
  | some fn =>
    rw [ho] at e
    simp only [Option.map_some, Option.getD_some, Bool.and_eq_true, Bool.not_eq_true'] at e
    simp only [e.1, e.2, Bool.false_eq_true, if_false]
    rfl
end
section
variable {P : Program} {F : Fr} {S h : Hp} {ops : Array Oper} {K : Act → Hp → Prop} {a : Act} {o : Oper} {l : List Oper} {over : List Nat} {i : Nat}
/-- One operation of the text. -/
def stp (P : Program) (F : Fr) (S : Hp) (ov : Bool) (o : Oper) (a : Act) (h : Hp) (K : Act → Hp → Prop) : Prop :=
  StK P F S (if ov then overKind o.op else kindOf o.op) (execOp a.eval o) h (fun v h' => K (a.put o.dst v) h')
def TI (P : Program) (F : Fr) (S : Hp) (ops : Array Oper) (K : Act → Hp → Prop) (over : List Nat) : Nat → List Oper → Act → Hp → Prop
  | _, [], a, h => K a h
  | i, o :: r, a, h => if Region.wanted o (yielded ops a.tmps) = true then stp P F S (over.contains i) o a h (TI P F S ops K over (i + 1) r) else TI P F S ops K over (i + 1) r (a.put o.dst undef) h
theorem TI_eq : ∀ (l : List Oper) (i : Nat) (a : Act) (h : Hp), T P F S ops K ((l.zipIdx i).map fun oi => (if over.contains oi.2 then overKind oi.1.op else kindOf oi.1.op, oi.1)) a h = TI P F S ops K over i l a h := by
  intro l
  induction l with
  | nil => exact fun _ _ _ => rfl
  | cons o r ih =>
    intro i a h
    simp only [List.zipIdx_cons, List.map_cons, T, TI, St, stp]
    have e : T P F S ops K ((r.zipIdx (i + 1)).map fun oi => (if over.contains oi.2 then overKind oi.1.op else kindOf oi.1.op, oi.1)) = TI P F S ops K over (i + 1) r := by
      funext a h; exact ih (i + 1) a h
    rw [e]
/-- A region that draws, walked in the order of the text. -/
theorem DDraw.walk {id : Nat} {l : List Oper} {K : Act → Hp → Prop} {a : Act} {h : Hp} (over : List Nat) (S : Hp) (hm : P.follows .mixedOrders = true) (hok : okDraw over l = true) (hS : ∀ g o, S.own g = some o → h.own g = some o)
    (ht : TI P F S l.toArray K over 0 l a h) : DDraw P F id l.toArray K a h :=
  DDraw.of over S hm hok hS (by unfold items; rw [TI_eq]; exact ht)
theorem TI_nil : TI P F S ops K over i [] a h = K a h := rfl
/-- The rest of a region. -/
def TR (P : Program) (F : Fr) (S : Hp) (ops : Array Oper) (K : Act → Hp → Prop) (over : List Nat) (i : Nat) (l : List Oper) (a : Act) (h : Hp) : Prop := TI P F S ops K over i l a h
theorem TR_app {t : Array Value} {ds : List Deferred} : TR P F S ops K over i l ⟨t, ds⟩ h = TI P F S ops K over i l ⟨t, ds⟩ h := rfl
def GuardD (P : Program) (F : Fr) (S : Hp) (ov : Bool) (R : Act → Hp → Prop) (o : Oper) (a : Act) (h : Hp) (b : Bool) : Option Bool → Prop
  | some c => (c = b → stp P F S ov o a h R) ∧ (c = (!b) → R (a.put o.dst undef) h)
  | none => R (a.put o.dst undef) h
section
variable {R : Act → Hp → Prop} {ov : Bool}
theorem GuardD_tt : GuardD P F S ov R o a h true (some true) = stp P F S ov o a h R := by simp [GuardD]
theorem GuardD_ff : GuardD P F S ov R o a h false (some false) = stp P F S ov o a h R := by simp [GuardD]
theorem GuardD_tf : GuardD P F S ov R o a h true (some false) = R (a.put o.dst undef) h := by simp [GuardD]
theorem GuardD_ft : GuardD P F S ov R o a h false (some true) = R (a.put o.dst undef) h := by simp [GuardD]
theorem GuardD_none {b : Bool} : GuardD P F S ov R o a h b none = R (a.put o.dst undef) h := rfl
theorem GuardD.split {b c : Bool} (h1 : c = b → stp P F S ov o a h R) (h2 : c = (!b) → R (a.put o.dst undef) h) : GuardD P F S ov R o a h b (some c) := ⟨h1, h2⟩
def GuardL (P : Program) (F : Fr) (S : Hp) (ops : Array Oper) (ov : Bool) (R : Act → Hp → Prop) (o : Oper) (a : Act) (h : Hp) : Option (Nat × Bool) → Prop
  | none => stp P F S ov o a h R
  | some (j, b) => GuardD P F S ov R o a h b (yielded ops a.tmps j)
theorem GuardL_none : GuardL P F S ops ov R o a h none = stp P F S ov o a h R := rfl
theorem GuardL_some {j : Nat} {b : Bool} : GuardL P F S ops ov R o a h (some (j, b)) = GuardD P F S ov R o a h b (yielded ops a.tmps j) := rfl
end
theorem TI_cons : TI P F S ops K over i (o :: l) a h = GuardL P F S ops (over.contains i) (TR P F S ops K over (i + 1) l) o a h o.guard := by
  cases hg : o.guard with
  | none => simp only [TI, Region.wanted, hg, if_true, GuardL]; rfl
  | some jb =>
    obtain ⟨j, b⟩ := jb
    simp only [TI, Region.wanted, hg, GuardL]
    cases hy : yielded ops a.tmps j with
    | none => simp only [GuardD]; rw [if_neg (by simp)]; rfl
    | some c =>
      simp only [GuardD]
      cases c <;> cases b <;> simp <;> rfl
end
section
variable {P : Program} {F : Fr} {S h : Hp} {a : Act} {K : Act → Hp → Prop} {dst : Option Tmp} {ty : TypeId} {pos : String} {af : Array Edge} {g : Option (Nat × Bool)}
def PutK (a : Act) (dst : Option Tmp) (K : Act → Hp → Prop) (v : Value) (h : Hp) : Prop := K (a.put dst v) h
theorem PutK_app {v : Value} : PutK a dst K v h = K (a.put dst v) h := rfl
theorem EvK_value {K : Value → Hp → Prop} {v : Value} : EvK P F S K h (some (.value v)) = K v h := rfl
theorem EvK_skip {K : Value → Hp → Prop} : EvK P F S K h (some .skip) = K undef h := rfl
def CallV (P : Program) (F : Fr) (S : Hp) (f : FuncId) (args : Array Value) (K : Value → Hp → Prop) (h : Hp) : Prop := ∃ v, CV P F S f args v ∧ K v h
theorem EvK_enter {K : Value → Hp → Prop} {f : FuncId} {args : Array Value} : EvK P F S K h (some (.enter f args)) = CallV P F S f args K h := rfl
theorem CallV.of1 {K : Value → Hp → Prop} {f : FuncId} {args : Array Value} {v : Value} (c : C1 P f args v) (hi : P.inits.idxOf? f = none) (hk : K v h) : CallV P F S f args K h :=
  ⟨v, ⟨hi, fun _ _ _ hk' => c.call hk'⟩, hk⟩
theorem stp_nilCheck (x : Operand) : stp P F S false ⟨dst, .nilCheck x, ty, pos, af, g⟩ a h K = EvK P F S (PutK a dst K) h (rval P F (execOp a.eval ⟨dst, .nilCheck x, ty, pos, af, g⟩) S) := rfl
theorem stp_binOp (b : BinOp) (t : TypeId) (x y : Operand) (u : TypeId) : stp P F S false ⟨dst, .binOp b t x y u, ty, pos, af, g⟩ a h K = EvK P F S (PutK a dst K) h (rval P F (execOp a.eval ⟨dst, .binOp b t x y u, ty, pos, af, g⟩) S) := rfl
theorem stp_unOp (b : UnOp) (t : TypeId) (x : Operand) : stp P F S false ⟨dst, .unOp b t x, ty, pos, af, g⟩ a h K = EvK P F S (PutK a dst K) h (rval P F (execOp a.eval ⟨dst, .unOp b t x, ty, pos, af, g⟩) S) := rfl
theorem stp_convert (s d : TypeId) (x : Operand) : stp P F S false ⟨dst, .convert s d x, ty, pos, af, g⟩ a h K = EvK P F S (PutK a dst K) h (rval P F (execOp a.eval ⟨dst, .convert s d x, ty, pos, af, g⟩) S) := rfl
theorem stp_makeFunc (f : Fn) (x y : Array Operand) : stp P F S false ⟨dst, .makeFunc f x y, ty, pos, af, g⟩ a h K = EvK P F S (PutK a dst K) h (rval P F (execOp a.eval ⟨dst, .makeFunc f x y, ty, pos, af, g⟩) S) := rfl
theorem stp_slice (t : TypeId) (x : Operand) (l m n : Option Operand) : stp P F S false ⟨dst, .slice t x l m n, ty, pos, af, g⟩ a h K = EvK P F S (PutK a dst K) h (rval P F (execOp a.eval ⟨dst, .slice t x l m n, ty, pos, af, g⟩) S) := rfl
theorem stp_fieldAddr (t : TypeId) (x : Operand) (i : Nat) : stp P F S false ⟨dst, .fieldAddr t x i, ty, pos, af, g⟩ a h K = EvK P F S (PutK a dst K) h (rval P F (execOp a.eval ⟨dst, .fieldAddr t x i, ty, pos, af, g⟩) S) := rfl
theorem stp_field (t : TypeId) (x : Operand) (i : Nat) : stp P F S false ⟨dst, .field t x i, ty, pos, af, g⟩ a h K = EvK P F S (PutK a dst K) h (rval P F (execOp a.eval ⟨dst, .field t x i, ty, pos, af, g⟩) S) := rfl
theorem stp_indexAddr (t : TypeId) (x y : Operand) : stp P F S false ⟨dst, .indexAddr t x y, ty, pos, af, g⟩ a h K = EvK P F S (PutK a dst K) h (rval P F (execOp a.eval ⟨dst, .indexAddr t x y, ty, pos, af, g⟩) S) := rfl
theorem stp_index (t : TypeId) (x y : Operand) : stp P F S false ⟨dst, .index t x y, ty, pos, af, g⟩ a h K = EvK P F S (PutK a dst K) h (rval P F (execOp a.eval ⟨dst, .index t x y, ty, pos, af, g⟩) S) := rfl
theorem stp_extract (x : Operand) (i : Nat) : stp P F S false ⟨dst, .extract x i, ty, pos, af, g⟩ a h K = EvK P F S (PutK a dst K) h (rval P F (execOp a.eval ⟨dst, .extract x i, ty, pos, af, g⟩) S) := rfl
theorem stp_load (t : TypeId) (x : Operand) : stp P F S false ⟨dst, .load t x, ty, pos, af, g⟩ a h K = EvK P F S (PutK a dst K) h (rval P F (execOp a.eval ⟨dst, .load t x, ty, pos, af, g⟩) S) := rfl
theorem stp_callv (x : Operand) (y : Array Operand) (z : Array TypeId) : stp P F S false ⟨dst, .call ⟨.value x, y, z⟩, ty, pos, af, g⟩ a h K = EvK P F S (PutK a dst K) h (rval P F (execOp a.eval ⟨dst, .call ⟨.value x, y, z⟩, ty, pos, af, g⟩) S) := rfl
theorem stp_len (y : Array Operand) (z : Array TypeId) : stp P F S false ⟨dst, .call ⟨.builtin .len, y, z⟩, ty, pos, af, g⟩ a h K = EvK P F S (PutK a dst K) h (rval P F (execOp a.eval ⟨dst, .call ⟨.builtin .len, y, z⟩, ty, pos, af, g⟩) S) := rfl
theorem stp_min (y : Array Operand) (z : Array TypeId) : stp P F S false ⟨dst, .call ⟨.builtin .min, y, z⟩, ty, pos, af, g⟩ a h K = EvK P F S (PutK a dst K) h (rval P F (execOp a.eval ⟨dst, .call ⟨.builtin .min, y, z⟩, ty, pos, af, g⟩) S) := rfl
theorem stp_max (y : Array Operand) (z : Array TypeId) : stp P F S false ⟨dst, .call ⟨.builtin .max, y, z⟩, ty, pos, af, g⟩ a h K = EvK P F S (PutK a dst K) h (rval P F (execOp a.eval ⟨dst, .call ⟨.builtin .max, y, z⟩, ty, pos, af, g⟩) S) := rfl
theorem stp_move (x : Operand) : stp P F S false ⟨dst, .move x, ty, pos, af, g⟩ a h K = K (a.put dst (a.eval x)) h := rfl
theorem stp_assign (x : Operand) : stp P F S false ⟨dst, .assign x, ty, pos, af, g⟩ a h K = K (a.put dst (a.eval x)) h := rfl
theorem stp_pick (c x y : Operand) : stp P F S false ⟨dst, .pick c x y, ty, pos, af, g⟩ a h K = PickK a dst K (a.eval x) (a.eval y) h (a.eval c) := by
  show EvK P F S (PutK a dst K) h (rval P F (execOp a.eval ⟨dst, .pick c x y, ty, pos, af, g⟩) S) = _
  simp only [execOp]
  cases a.eval c <;> rfl
/-- The end of an operation that calls nothing, in a region that draws. -/
def BiK (F : Fr) (S : Hp) (a : Act) (dst : Option Tmp) (K : Act → Hp → Prop) (v : Value) (h : Hp) : Prop := Inv F S h ∧ K (a.put dst v) h
theorem BiK_app {v : Value} : BiK F S a dst K v h = (Inv F S h ∧ K (a.put dst v) h) := rfl
theorem bfin_value {K : Value → Hp → Prop} {v : Value} : bfin K (.value v) h = K v h := rfl
/-- What is read of the state as it is. -/
def RdK (K : Value → Hp → Prop) (h : Hp) : Option Next → Prop
  | some (.value v) => K v h
  | _ => False
theorem RdK_value {K : Value → Hp → Prop} {v : Value} : RdK K h (some (.value v)) = K v h := rfl
theorem stp_rd (t : TypeId) (x : Operand) : stp P F S true ⟨dst, .load t x, ty, pos, af, g⟩ a h K = RdK (PutK a dst K) h (rval P F (execOp a.eval ⟨dst, .load t x, ty, pos, af, g⟩) h) := by
  show (∃ v, _ ∧ _) = _
  apply propext
  constructor
  · rintro ⟨v, h1, h2⟩
    rw [h1]
    exact h2
  · intro hh
    cases e : rval P F (execOp a.eval ⟨dst, .load t x, ty, pos, af, g⟩) h with
    | none => rw [e] at hh; exact hh.elim
    | some n =>
      rw [e] at hh
      cases n <;> first | exact (hh : False).elim | exact ⟨_, rfl, hh⟩
theorem bi_same {Q : Prop} (hq : Q) : Inv F S h → Inv F S h ∧ Q := fun hi => ⟨hi, hq⟩
/-- A slice is appended to. -/
def AppD (P : Program) (F : Fr) (a : Act) (dst : Option Tmp) (K : Act → Hp → Prop) (ts : Array TypeId) (ty : TypeId) (u v : Value) (h : Hp) : Prop := dwp P F (Builtin.append_ ts ty #[u, v]) h (fun w h' => K (a.put dst w) h')
theorem exec_append (ρ : Operand → Value) (x y : Operand) (ts : Array TypeId) : execOp ρ ⟨dst, .call ⟨.builtin .append, #[x, y], ts⟩, ty, pos, af, g⟩ = (Builtin.append_ ts ty #[ρ x, ρ y] >>= fun v => (pure (Next.value v) : Sem Next)) := by
  simp only [execOp, resolve, invoke, builtin, pure_bind, List.map_toArray, List.map_cons, List.map_nil]
theorem dop_append (x y : Operand) (ts : Array TypeId) : dop P F ⟨dst, .call ⟨.builtin .append, #[x, y], ts⟩, ty, pos, af, g⟩ a h K = AppD P F a dst K ts ty (a.eval x) (a.eval y) h := by
  unfold dop AppD
  rw [exec_append, dwp_bind']
  rfl
def InvK (F : Fr) (S : Hp) (K : Act → Hp → Prop) (a : Act) (h : Hp) : Prop := Inv F S h ∧ K a h
theorem InvK_app {a : Act} : InvK F S K a h = (Inv F S h ∧ K a h) := rfl
theorem stp_append (x y : Operand) (ts : Array TypeId) : stp P F S false ⟨dst, .call ⟨.builtin .append, #[x, y], ts⟩, ty, pos, af, g⟩ a h K =
  (Inv F S h → AppD P F a dst (InvK F S K) ts ty (a.eval x) (a.eval y) h) := by
  show (Inv F S h → dwp P F (execOp a.eval ⟨dst, .call ⟨.builtin .append, #[x, y], ts⟩, ty, pos, af, g⟩) h (bfin (BiK F S a dst K))) = _
  unfold AppD
  rw [exec_append, dwp_bind']
  rfl
/-! ### Blocks are made -/
theorem StK_al {s : Sem Next} {ob : Obj} {v : Nat → Value} {K : Value → Hp → Prop} (hAL : AL P F s ob v) : StK P F S .al s h K = NewK F ob (fun g h' => K (v g) h') h := by
  apply propext
  constructor
  · rintro ⟨ob', v', h1, h2⟩
    exact (hAL h K).1 ((h1 h K).2 h2)
  · exact fun hh => ⟨ob, v, hAL, hh⟩
theorem stp_box (t : TypeId) (x : Operand) : stp P F S false ⟨dst, .box t x, ty, pos, af, g⟩ a h K = NewK F (.cells (a.eval x).cells t) (PtrN a dst K) h :=
  StK_al (ob := .cells (a.eval x).cells t) (v := fun g => .pointer (some ⟨g, 0, none⟩)) (fun _ _ => Iff.rfl)
theorem stp_alloc (t : TypeId) : stp P F S false ⟨dst, .alloc t, ty, pos, af, g⟩ a h K = dwp P F (zeroValue t) h (AlZ F a dst K t) := by
  rw [dwp_zeroValue]
  show StK P F S .al _ h _ = _
  cases hz : (P.info? t).bind (·.zero) with
  | some z =>
    refine StK_al (ob := .cells z.cells t) (v := fun g => .pointer (some ⟨g, 0, none⟩)) (fun h K => ?_)
    have := dop_alloc (P := P) (F := F) (h := h) (a := a) (K := fun a' h' => ∃ v, a' = a.put dst v ∧ K v h') (dst := dst) (ty := ty) (pos := pos) (af := af) (g := g) t
    unfold vop
    simp only [execOp, Instr.alloc, newVar, newRow]
    rw [dwp_bind', dwp_bind', dwp_zeroValue, hz]
    exact Iff.rfl
  | none =>
    apply propext
    constructor
    · rintro ⟨ob, v, h1, h2⟩
      have h3 := (h1 h (fun _ _ => True)).2 (fun _ _ _ => trivial)
      unfold vop at h3
      simp only [execOp, Instr.alloc, newVar, newRow] at h3
      rw [dwp_bind', dwp_bind', dwp_zeroValue, hz] at h3
      exact h3
    · exact fun hh => hh.elim

/-! ### A block is written -/
def IgnK (K : Hp → Prop) (_ : Act) (h : Hp) : Prop := K h
theorem IgnK_app {K : Hp → Prop} : IgnK K a h = K h := rfl
def WrB (P : Program) (F : Fr) (S : Hp) (o : Oper) (a : Act) (K : Act → Hp → Prop) (h : Hp) (b : Nat) : Option Obj → Prop
  | some ob => S.own b = none ∧ ∃ ob', (∀ h', h'.own b = some ob → ∀ K' : Hp → Prop, K' (h'.set b ob') → dop P F o a h' (IgnK K')) ∧ (∀ h', h'.own b = some ob → ∀ K' : Hp → Prop, dop P F o a h' (IgnK K') → K' (h'.set b ob')) ∧ (∀ h', h'.own b = none → dop P F o a h' (IgnK fun _ => True) → False) ∧ K a (h.set b ob')
  | none => False
theorem WrB.intro {o : Oper} {b : Nat} {ob : Obj} (ob' : Obj) (h1 : S.own b = none) (h2 : ∀ h', h'.own b = some ob → ∀ K' : Hp → Prop, K' (h'.set b ob') → dop P F o a h' (IgnK K'))
    (h4 : ∀ h', h'.own b = some ob → ∀ K' : Hp → Prop, dop P F o a h' (IgnK K') → K' (h'.set b ob')) (h5 : ∀ h', h'.own b = none → dop P F o a h' (IgnK fun _ => True) → False) (h3 : K a (h.set b ob')) : WrB P F S o a K h b (some ob) := ⟨h1, ob', h2, h4, h5, h3⟩
def WrA (P : Program) (F : Fr) (S : Hp) (o : Oper) (a : Act) (K : Act → Hp → Prop) (h : Hp) : Value → Prop
  | .pointer (some ad) => WrB P F S o a K h ad.block (h.own ad.block)
  | _ => False
theorem WrA_some {o : Oper} {ad : Addr} : WrA P F S o a K h (.pointer (some ad)) = WrB P F S o a K h ad.block (h.own ad.block) := rfl
theorem stp_store {t : TypeId} {x y : Operand} : WrA P F S ⟨none, .store t x y, ty, pos, af, g⟩ a K h (a.eval x) → stp P F S false ⟨none, .store t x y, ty, pos, af, g⟩ a h K := by
  intro H
  cases hx : a.eval x <;> rw [hx] at H <;> try exact H.elim
  rename_i p
  cases p with
  | none => exact H.elim
  | some ad =>
    rw [WrA_some] at H
    cases ho : h.own ad.block with
    | none => rw [ho] at H; exact H.elim
    | some ob =>
      rw [ho] at H
      obtain ⟨h1, ob', h2, h4, h5, h3⟩ := H
      refine ⟨ad.block, ob, ob', ho, ⟨fun h' ho' K' hk => ?_, fun h' ho' K' hk => ?_, fun h' ho' K' hk => ?_⟩, h1, fun v => h3⟩
      · have h4 := h2 h' ho' (fun h'' => ∀ v, K' v h'') hk
        rw [dop_vop] at h4
        exact vop_mono (fun v h'' hh => hh v) h4
      · refine h5 h' ho' ?_
        rw [dop_vop]
        exact vop_mono (fun v h'' hh => trivial) hk
      · refine h4 h' ho' (fun h'' => ∃ v, K' v h'') ?_
        rw [dop_vop]
        exact vop_mono (fun v h'' hh => ⟨v, hh⟩) hk
/-- What is there already is written. -/
def NsB (P : Program) (F : Fr) (o : Oper) (a : Act) (K : Act → Hp → Prop) (h : Hp) (b : Nat) : Option Obj → Prop
  | some ob => (∀ h', h'.own b = some ob → ∀ K' : Hp → Prop, K' (h'.set b ob) → dop P F o a h' (IgnK K')) ∧ K a h
  | none => False
theorem NsB.intro {o : Oper} {b : Nat} {ob : Obj} (h2 : ∀ h', h'.own b = some ob → ∀ K' : Hp → Prop, K' (h'.set b ob) → dop P F o a h' (IgnK K')) (h3 : K a h) : NsB P F o a K h b (some ob) := ⟨h2, h3⟩
def NsA (P : Program) (F : Fr) (S : Hp) (o : Oper) (a : Act) (K : Act → Hp → Prop) (h : Hp) : Value → Prop
  | .pointer (some ad) => NsB P F o a K h ad.block (S.own ad.block)
  | _ => False
theorem NsA_some {o : Oper} {ad : Addr} : NsA P F S o a K h (.pointer (some ad)) = NsB P F o a K h ad.block (S.own ad.block) := rfl
theorem set_same {h : Hp} {g : Nat} {o : Obj} (e : h.own g = some o) : h.set g o = h := by
  unfold Hp.set
  cases h
  congr 1
  funext k
  split
  · rename_i hk; subst hk; exact e.symm
  · rfl
theorem u_skip {s : Sem Unit} {h : Hp} {Q : Next → Hp → Prop} : dwp P F (s >>= fun _ => (pure Next.skip : Sem Next)) h Q = dwp P F s h (fun _ h' => Q .skip h') := by
  rw [dwp_bind']; rfl
theorem stp_ns {t : TypeId} {x y : Operand} : NsA P F S ⟨none, .store t x y, ty, pos, af, g⟩ a K h (a.eval x) → stp P F S true ⟨none, .store t x y, ty, pos, af, g⟩ a h K := by
  intro H
  cases hx : a.eval x <;> rw [hx] at H <;> try exact H.elim
  rename_i p
  cases p with
  | none => exact H.elim
  | some ad =>
    rw [NsA_some] at H
    cases ho : S.own ad.block with
    | none => rw [ho] at H; exact H.elim
    | some ob =>
      rw [ho] at H
      obtain ⟨h2, h3⟩ := H
      refine ⟨fun h' hi K' hk => ?_, h3⟩
      have ho' := hi.keep _ _ ho
      have h4 := h2 h' ho' (fun h'' => K' undef h'') (by rw [set_same ho']; exact hk)
      unfold dop at h4
      unfold vop
      simp only [execOp] at h4 ⊢
      rw [u_skip] at h4 ⊢
      exact h4
end
/-! ### A struct or an array out of its parts -/
section
variable {α β : Type} {P : Program} {F : Fr} {S h : Hp}
/-- A tree that reads at most. -/
def rdr {α : Type} : Sem α → Prop
  | .pure _ => True
  | .load _ _ k => ∀ v, rdr (k v)
  | .program k => ∀ p, rdr (k p)
  | .mark _ k => rdr k
  | .halt _ => True
  | _ => False
theorem rdr.rval {K : α → Hp → Prop} : ∀ (s : Sem α), rdr s → dwp P F s S K → ∃ n, SL.rval P F s S = some n ∧ K n S := by
  intro s
  induction s with
  | pure a => exact fun _ hk => ⟨a, rfl, hk⟩
  | load m p k ih =>
    intro hr hk
    simp only [dwp, SL.rval] at hk ⊢
    cases hc : S.cell? F p with
    | none => rw [hc] at hk; exact hk.elim
    | some v => rw [hc] at hk; exact ih v (hr v) hk
  | program k ih => exact fun hr hk => ih _ (hr _) hk
  | mark m k ih => exact fun hr hk => ih hr hk
  | halt x => exact fun _ hk => hk.elim
  | _ => intro hr; exact hr.elim
theorem rdr.bind {f : α → Sem β} : ∀ (s : Sem α), rdr s → (∀ a, rdr (f a)) → rdr (s >>= f) := by
  intro s
  induction s with
  | pure a => exact fun _ hf => hf a
  | load m p k ih => exact fun hr hf v => ih v (hr v) hf
  | program k ih => exact fun hr hf p => ih p (hr p) hf
  | mark m k ih => exact fun hr hf => ih hr hf
  | halt x => exact fun _ _ => trivial
  | _ => intro hr; exact hr.elim
theorem rdr.info {f : TypeInfo → Sem β} (t : TypeId) (hf : ∀ i, rdr (f i)) : rdr (typeInfo t >>= f) := by
  refine rdr.bind _ ?_ hf
  unfold typeInfo
  intro p
  show rdr (match p.info? t with | some i => pure i | none => stuck "no such type")
  cases p.info? t <;> trivial
theorem rdr.under (t : TypeId) : rdr (underlying t) := by
  unfold underlying
  intro p
  show rdr (match p.underlying t with | some d => pure d | none => stuck "no such type")
  cases p.underlying t <;> trivial
theorem rdr.zero (t : TypeId) : rdr (zeroValue t) := by
  unfold zeroValue
  refine rdr.info t fun i => ?_
  show rdr (match i.zero with | some v => pure v | none => unsupported (.resourceLimit "a value of more than 2^22 cells"))
  cases i.zero <;> trivial
theorem rdr.size (t : TypeId) : rdr (sizeOf t) := by
  unfold sizeOf
  exact rdr.info t fun i => trivial
theorem rdr.mapM {f : α → Sem β} (hf : ∀ a, rdr (f a)) : ∀ (l : List α), rdr (l.mapM f) := by
  intro l
  induction l with
  | nil => rw [List.mapM_nil]; trivial
  | cons a l ih =>
    rw [List.mapM_cons]
    exact rdr.bind _ (hf a) fun b => rdr.bind _ ih fun _ => trivial
theorem rdr.build (t : TypeId) (parts : Array (Nat × Value)) : rdr (Instr.build t parts) := by
  unfold Instr.build
  refine rdr.bind _ (rdr.zero t) fun z => rdr.bind _ (rdr.under t) fun d => ?_
  cases d <;> try exact trivial
  · refine rdr.bind _ (rdr.size _) fun s => ?_
    split <;> trivial
  · refine rdr.bind _ ?_ fun l => ?_
    · rw [Array.mapM_eq_mapM_toList]
      rw [map_eq_pure_bind]
      refine rdr.bind _ (rdr.mapM (fun x => ?_) _) fun _ => ?_
      · refine rdr.bind _ (rdr.size _) fun _ => ?_
        exact True.intro
      · exact True.intro
    · split <;> trivial
/-- Of the state as it is. -/
def AtK (K : Act → Hp → Prop) (h : Hp) (a : Act) (_ : Hp) : Prop := K a h
theorem AtK_app {K : Act → Hp → Prop} {a : Act} {h' : Hp} : AtK K h a h' = K a h := rfl
theorem stp_build {a : Act} {K : Act → Hp → Prop} {dst : Option Tmp} {ty : TypeId} {pos : String} {af : Array Edge} {g : Option (Nat × Bool)} {t : TypeId} {parts : Array (Nat × Operand)} :
    dwp P F (zeroValue t) S (BD1 P F a dst (AtK K h) t (parts.toList.map fun p => (p.1, a.eval p.2))) → stp P F S false ⟨dst, .build t parts, ty, pos, af, g⟩ a h K := by
  intro H
  have h1 := dop_build (ty := ty) (pos := pos) (af := af) (g := g) H
  unfold dop at h1
  simp only [execOp] at h1
  have hr : rdr (Instr.build t (parts.map fun x => (x.1, a.eval x.2)) >>= fun v => pure (Next.value v)) := rdr.bind _ (rdr.build _ _) fun _ => True.intro
  obtain ⟨n, e, hk⟩ := rdr.rval _ hr h1
  show EvK P F S (PutK a dst K) h (SL.rval P F (execOp a.eval ⟨dst, .build t parts, ty, pos, af, g⟩) S)
  simp only [execOp]
  rw [e]
  have hv : ∃ v, n = .value v := by
    rw [rval_bind'] at e
    cases hb : SL.rval P F (Instr.build t (parts.map fun x => (x.1, a.eval x.2))) S with
    | none => rw [hb] at e; cases e
    | some v => rw [hb] at e; exact ⟨v, by simpa [RB, rval_pure', eq_comm] using e⟩
  obtain ⟨v, rfl⟩ := hv
  exact hk
end
end Go.SL
