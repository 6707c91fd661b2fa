/-
  A walk over a part of memory: what a call owns and what it may read. Conditions: none. Plain theorems and definitions.
-/
import Derived.Test.YtlbpfmnobapidaaS1
import Derived.Laws.Sem
import Derived.RangeFuncRecord
import Derived.OrdersIn
set_option linter.unusedVariables false
set_option linter.unusedSimpArgs false
namespace Go.SL
open Go.RowKit

/-- A call from a state in which so much is owned. -/
structure DCall (P : Program) (F : Fr) (f : FuncId) (args : Array Value) (h : Hp) (K : Value → Hp → Prop) : Prop where
  out : ∀ w, HRel F h w → Calls P f args w (fun e w' => ∃ v h', e = .returned v ∧ K v h' ∧ HRel F h' w')

/-- A round of a range over a function. -/
def DRound (P : Program) (F : Fr) (l : Nat) (f : FuncId) (tmps : Array Value) (assign body : Code) (h : Hp) (K : Value → Hp → Prop) : Prop :=
  ∀ w, HRel F h w → RoundIn Fence.wide 0 P l f tmps assign body w (fun e w' => ∃ v h', e = .returned v ∧ K v h' ∧ HRel F h' w')

def fin (P : Program) (F : Fr) (o : Oper) (a : Act) (K : Act → Hp → Prop) : Next → Hp → Prop
  | .value v, h => K (a.put o.dst v) h
  | .skip, h => K (a.put o.dst undef) h
  | .enter f args, h => DCall P F f args h (fun v h' => K (a.put o.dst v) h')
  | .round l f tmps assign body, h => DRound P F l f tmps assign body h (fun v h' => K (a.put o.dst v) h')
  | _, _ => False

def dop (P : Program) (F : Fr) (o : Oper) (a : Act) (h : Hp) (K : Act → Hp → Prop) : Prop := dwp P F (execOp a.eval o) h (fin P F o a K)

/-- The fence that lets everything in, in whatever round. -/
def wideR (ro : Option Nat) : Fence := { Fence.wide with round := ro }
theorem wideR_room (ro : Option Nat) (n : Nat) : (wideR ro).room n := fun _ h => by simp [wideR, Fence.wide] at h
theorem wideR_about {ro : Option Nat} {P : Program} {o : Oper} {a : Act} {w : World} : ∀ f, o.about P w a.eval = some f → (wideR ro).fn f := fun _ _ => trivial
theorem callsIn_wideR {ro : Option Nat} {P : Program} {f : FuncId} {args : Array Value} {w : World} {R : Ending → World → Prop} (h : Calls P f args w R) : CallsIn (wideR ro) 0 P f args w R :=
  (callsIn_wide (n := 0)).2 h

theorem dop_sound {P : Program} {F : Fr} {o : Oper} {a : Act} {h : Hp} {K : Act → Hp → Prop} {w : World} {Q : Exit → Act → World → Prop} (ro : Option Nat) (hd : dop P F o a h K) (r : HRel F h w) :
    o.wpIn (wideR ro) 0 P a w (fun a' w' => ∃ h', K a' h' ∧ HRel F h' w') Q := by
  obtain ⟨n, w', h', hr, hk, r'⟩ := dwp_run _ h w hd r
  refine ⟨wideR_about, ?_⟩
  have hnd : ∀ c, o.op ≠ .defer c := by
    intro c hc
    have e : execOp a.eval o = (do pure (.defer (← resolve a.eval c o.type)) : Sem Next) := by
      unfold execOp
      rw [hc]
    rw [e, Sem.run_bind] at hr
    cases hq : (resolve a.eval c o.type).run P w with
    | ok d w1 =>
      rw [hq] at hr
      simp only [Result.andThen] at hr
      cases hr
      exact hk.elim
    | halt x w1 => rw [hq] at hr; cases hr
  rw [Oper.semAt_eq _ _ _ hnd, hr]
  cases n <;> simp only [fin] at hk
  case value v => exact ⟨h', hk, r'⟩
  case skip => exact ⟨h', hk, r'⟩
  case enter f args =>
    rw [Oper.uponIn_enter]
    refine ⟨fun e => by simp [wideR, Fence.wide] at e, callsIn_wideR ((hk.out w' r').mono fun e w'' hh => ?_)⟩
    obtain ⟨v, h'', rfl, hk', r''⟩ := hh
    exact ⟨h'', hk', r''⟩
  case round l f tmps assign body =>
    rw [Oper.uponIn_round]
    refine ⟨fun e => by simp [wideR, Fence.wide] at e, ?_⟩
    have h2 : RoundIn (wideR ro) 0 P l f tmps assign body w' _ := hk w' r'
    refine h2.mono fun e w'' hh => ?_
    obtain ⟨v, h'', rfl, hk', r''⟩ := hh
    exact ⟨h'', hk', r''⟩

theorem dop_mono {P : Program} {F : Fr} {o : Oper} {a : Act} {h : Hp} {K K' : Act → Hp → Prop} (hk : ∀ a h, K a h → K' a h) (hd : dop P F o a h K) : dop P F o a h K' := by
  refine dwp_mono (fun n h hn => ?_) _ _ hd
  cases n <;> simp only [fin] at hn ⊢
  case value => exact hk _ _ hn
  case skip => exact hk _ _ hn
  case enter f args =>
    refine ⟨fun w r => ?_⟩
    exact (hn.out w r).mono fun e w' ⟨v, h', he, hh, rr⟩ => ⟨v, h', he, hk _ _ hh, rr⟩
  case round l f tmps assign body =>
    intro w r
    exact (hn w r).mono fun e w' ⟨v, h', he, hh, rr⟩ => ⟨v, h', he, hk _ _ hh, rr⟩

/-- The operations in the order of the text. -/
def dops (P : Program) (F : Fr) (ops : Array Oper) (K : Act → Hp → Prop) : List Oper → Act → Hp → Prop
  | [], a, h => K a h
  | o :: rest, a, h => if Region.wanted o (yielded ops a.tmps) then dop P F o a h (dops P F ops K rest) else dops P F ops K rest (a.put o.dst undef) h

theorem dops_sound {P : Program} {F : Fr} {ops : Array Oper} {K : Act → Hp → Prop} {Q : Exit → Act → World → Prop} (ro : Option Nat) (hq : ∀ a h w, K a h → HRel F h w → Q .normal a w) :
    ∀ (l : List Oper) (i : Nat) (a : Act) (h : Hp) (w : World), (∀ j, j < l.length → ops[i + j]? = l[j]?) → dops P F ops K l a h → HRel F h w → wpOpsIn (wideR ro) 0 P ops Q (List.range' i l.length) a w := by
  intro l
  induction l with
  | nil => exact fun i a h w _ hk r => hq a h w hk r
  | cons o rest ih =>
    intro i a h w hl hk r
    have ho : ops[i]? = some o := by simpa using hl 0 (by simp)
    have hl' : ∀ j, j < rest.length → ops[i + 1 + j]? = rest[j]? := fun j hj => by
      have := hl (j + 1) (by simp; omega)
      simpa [Nat.add_assoc, Nat.add_comm 1 j] using this
    simp only [dops] at hk
    rw [List.length_cons, List.range'_succ]
    simp only [wpOpsIn, ho]
    split
    · rename_i hw
      simp only [hw, if_true] at hk
      exact Oper.wpIn_mono (fun a' w' hh => by obtain ⟨h', hk', r'⟩ := hh; exact ih (i + 1) a' h' w' hl' hk' r') (dop_sound ro hk r)
    · rename_i hw
      simp only [hw] at hk
      exact ⟨wideR_about, ih (i + 1) _ _ _ hl' hk r⟩

/-- What a piece of code owes, in whatever round it stands; outside of rounds, where the walk says so. -/
def DWp (P : Program) (F : Fr) (c : Code) (Q : Exit → Act → Hp → Prop) (a : Act) (h : Hp) : Prop :=
  ∀ ro : Option Nat, (F.top = true → ro = none) → ∀ w, HRel F h w → c.wpIn (wideR ro) 0 P (fun e a' w' => ∃ h', Q e a' h' ∧ HRel F h' w') a w

theorem DWp.mono {P : Program} {F : Fr} {c : Code} {Q Q' : Exit → Act → Hp → Prop} {a : Act} {h : Hp} (hq : ∀ e a h, Q e a h → Q' e a h) (hd : DWp P F c Q a h) : DWp P F c Q' a h :=
  fun ro hro w r => wpIn_mono (hd ro hro w r) fun _ _ _ ⟨h', q, r'⟩ => ⟨h', hq _ _ _ q, r'⟩

/-- What follows. -/
def Then (K : Act → Hp → Prop) (Q : Exit → Act → Hp → Prop) : Exit → Act → Hp → Prop
  | .normal, a, h => K a h
  | e, a, h => Q e a h
def InBlock (id : Nat) (Q : Exit → Act → Hp → Prop) : Exit → Act → Hp → Prop
  | .exit id', a, h => if id' = id then Q .normal a h else Q (.exit id') a h
  | e, a, h => Q e a h

/-- A region that draws its order: what is owed of it (given below). -/
def DDraw (P : Program) (F : Fr) (id : Nat) (ops : Array Oper) (K : Act → Hp → Prop) (a : Act) (h : Hp) : Prop :=
  ∀ Q : Exit → Act → Hp → Prop, (∀ a h, K a h → Q .normal a h) → DWp P F (.region id ops true) Q a h
def DLoop (P : Program) (F : Fr) (c : Code) (Q : Exit → Act → Hp → Prop) (a : Act) (h : Hp) : Prop := DWp P F (.loop c) Q a h
def DOther (P : Program) (F : Fr) (c : Code) (Q : Exit → Act → Hp → Prop) (a : Act) (h : Hp) : Prop := DWp P F c Q a h

def dcode (P : Program) (F : Fr) : Code → (Exit → Act → Hp → Prop) → Act → Hp → Prop
  | .skip, Q, a, h => Q .normal a h
  | .label _, Q, a, h => Q .normal a h
  | .region id ops d, Q, a, h => match d with
    | false => dops P F ops (Q .normal) ops.toList a h
    | true => DDraw P F id ops (Q .normal) a h
  | .seq x y, Q, a, h => dcode P F x (Then (fun a h => dcode P F y Q a h) Q) a h
  | .cond c x y, Q, a, h => match a.eval c with
    | .bool b => (b = true → dcode P F x Q a h) ∧ (b = false → dcode P F y Q a h)
    | _ => False
  | .block id c, Q, a, h => dcode P F c (InBlock id Q) a h
  | .exit id, Q, a, h => Q (.exit id) a h
  | .ret, Q, a, h => Q .ret a h
  | .loop c, Q, a, h => DLoop P F c Q a h
  | c, Q, a, h => DOther P F c Q a h
/-- The code that follows, not looked into before it is come to. -/
def Kont (P : Program) (F : Fr) (y : Code) (Q : Exit → Act → Hp → Prop) (a : Act) (h : Hp) : Prop := dcode P F y Q a h
theorem dcode_seq {P : Program} {F : Fr} {x y : Code} {Q : Exit → Act → Hp → Prop} {a : Act} {h : Hp} : dcode P F (.seq x y) Q a h = dcode P F x (Then (Kont P F y Q) Q) a h := rfl

theorem DWp.seq {P : Program} {F : Fr} {x y : Code} {Q : Exit → Act → Hp → Prop} {a : Act} {h : Hp} (hd : DWp P F x (Then (DWp P F y Q) Q) a h) : DWp P F (.seq x y) Q a h := by
  intro ro hro w r
  refine wpIn_seq (wpIn_mono (hd ro hro w r) fun e a' w' hh => ?_)
  obtain ⟨h', q, r'⟩ := hh
  cases e with
  | normal => exact q ro hro w' r'
  | _ => exact ⟨h', q, r'⟩

theorem dcode_sound {P : Program} {F : Fr} : ∀ (c : Code) (Q : Exit → Act → Hp → Prop) (a : Act) (h : Hp), dcode P F c Q a h → DWp P F c Q a h := by
  intro c
  induction c with
  | skip => exact fun Q a h hd ro _ w r => wpIn_skip ⟨h, hd, r⟩
  | label l => exact fun Q a h hd ro _ w r => wpIn_label ⟨h, hd, r⟩
  | region id ops d =>
    intro Q a h hd ro hro w r
    cases d with
    | false =>
      refine wpIn_region ?_
      have h1 := dops_sound (Q := fun e a' w' => ∃ h', Q e a' h' ∧ HRel F h' w') ro (fun a h w hk r => ⟨h, hk, r⟩) ops.toList 0 a h w (fun j _ => by simp) hd r
      rw [List.range_eq_range']
      have h3 : ops.toList.length = ops.size := by simp
      rw [h3] at h1
      exact h1
    | true => exact hd Q (fun _ _ hk => hk) ro hro w r
  | seq x y ihx ihy =>
    intro Q a h hd
    refine DWp.seq ((ihx _ a h hd).mono fun e a' h' q => ?_)
    cases e with
    | normal => exact ihy _ _ _ q
    | _ => exact q
  | cond c x y ihx ihy =>
    intro Q a h hd ro hro w r
    simp only [dcode] at hd
    split at hd
    · rename_i b hb
      exact wpIn_cond_split hb (fun hb' => ihx Q a h (hd.1 hb') ro hro w r) (fun hb' => ihy Q a h (hd.2 hb') ro hro w r)
    · exact hd.elim
  | block id c ih =>
    intro Q a h hd ro hro w r
    refine wpIn_block (wpIn_mono (ih _ a h hd ro hro w r) fun e a' w' hh => ?_)
    obtain ⟨h', q, r'⟩ := hh
    cases e with
    | exit id' =>
      simp only [InBlock, Exit.inBlock] at q ⊢
      split <;> rename_i hid <;> simp only [hid, if_true, if_false] at q <;> exact ⟨h', q, r'⟩
    | _ => exact ⟨h', q, r'⟩
  | exit id => exact fun Q a h hd ro _ w r => wpIn_exit ⟨h, hd, r⟩
  | ret => exact fun Q a h hd ro _ w r => wpIn_ret ⟨h, hd, r⟩
  | loop c ih => exact fun Q a h hd => hd
  | rangeFunc f ps as b => exact fun Q a h hd => hd
  | scope c => exact fun Q a h hd => hd
  | goto l => exact fun Q a h hd => hd
  | refuse w => exact fun Q a h hd => hd

/-- A tree that only reads. -/
def rval {α : Type} (P : Program) (F : Fr) : Sem α → Hp → Option α
  | .pure a, _ => some a
  | .load _ a k, h => match h.cell? F a with
    | some v => rval P F (k v) h
    | none => none
  | .program k, h => rval P F (k P) h
  | .mark _ k, h => rval P F k h
  | _, _ => none
theorem rval_run {α : Type} {P : Program} {F : Fr} {h : Hp} {w : World} (r : HRel F h w) {a : α} : ∀ (s : Sem α), rval P F s h = some a → s.run P w = .ok a w := by
  intro s
  induction s with
  | pure b => intro e; simp only [rval, Option.some.injEq] at e; subst e; rfl
  | load m p k ih =>
    intro e
    simp only [rval] at e
    cases hc : h.cell? F p with
    | none => rw [hc] at e; cases e
    | some v => rw [hc] at e; simp only [Sem.run, r.cell hc]; exact ih v e
  | program k ih => exact fun e => ih _ e
  | mark m k ih => exact fun e => ih e
  | _ => intro e; simp [rval] at e
theorem rval_bind {α β : Type} {P : Program} {F : Fr} {f : α → Sem β} {h : Hp} : ∀ (s : Sem α), rval P F (s.bind f) h = (rval P F s h).bind (fun a => rval P F (f a) h) := by
  intro s
  induction s <;> simp only [Sem.bind, rval] <;> first | rfl | simp_all
  split <;> simp_all
theorem dwp_rval {α : Type} {P : Program} {F : Fr} {h : Hp} {K : α → Hp → Prop} {a : α} : ∀ (s : Sem α), rval P F s h = some a → K a h → dwp P F s h K := by
  intro s
  induction s with
  | pure b => intro e hk; simp only [rval, Option.some.injEq] at e; subst e; exact hk
  | load m p k ih =>
    intro e hk
    simp only [rval] at e
    simp only [dwp]
    cases hc : h.cell? F p with
    | none => rw [hc] at e; cases e
    | some v => rw [hc] at e; exact ih v e hk
  | program k ih => exact fun e hk => ih _ e hk
  | mark m k ih => exact fun e hk => ih e hk
  | _ => intro e; simp [rval] at e

/-! ### Functions -/
/-- Nothing is owned as the call begins. -/
def Hp.none_ : Hp := ⟨fun _ => none⟩
def Fr.of (w : World) : Fr := ⟨w, fun _ => False, fun _ => none, fun _ _ e => (by cases e), true⟩
theorem HRel.start (F : Fr) (h : Hp) (ho : ∀ g, h.own g = none) : HRel F h F.w0 :=
  ⟨fun g o e => (by rw [ho] at e; cases e), Nat.le_refl _, rfl, rfl, rfl, fun _ _ _ => rfl, fun g o e => (by rw [ho] at e; cases e)⟩
theorem HRel.below {F : Fr} {w' : World} {h : Hp} (r : HRel F h w') (hM : ∀ b, ¬ F.M b) : Below F.w0.heap.size F.w0 w' :=
  ⟨r.os, r.tape, r.output, r.size, fun k hk => r.frame k hk (hM k)⟩
/-- A call that turns nothing of what was there. -/
theorem HRel.after {F : Fr} {h : Hp} {w w' : World} (r : HRel F h w) (hb : Below w.heap.size w w') : HRel F h w' :=
  ⟨fun g o e => (hb.block g (own_lt r e)).trans (r.own g o e), Nat.le_trans r.size hb.size,
    hb.os.trans r.os, hb.tape.trans r.tape, hb.output.trans r.output, fun b h1 h2 => (hb.block b (Nat.lt_of_lt_of_le h1 r.size)).trans (r.frame b h1 h2), r.mine⟩
/-- A function of plain values. -/
def C1 (P : Program) (f : FuncId) (args : Array Value) (v : Value) : Prop := ∀ w, Calls P f args w fun e w' => e = .returned v ∧ Below w.heap.size w w'
theorem C1.call {P : Program} {F : Fr} {f : FuncId} {args : Array Value} {v : Value} {h : Hp} {K : Value → Hp → Prop} (c : C1 P f args v) (hk : K v h) : DCall P F f args h K :=
  ⟨fun w r => (c w).mono fun _ _ ⟨he, hb⟩ => ⟨v, h, he, hk, r.after hb⟩⟩

/-! ### What a function hands back -/
/-- A tree that leaves the world alone. -/
def RO {α : Type} (s : Sem α) : Prop := ∀ P w v w', s.run P w = .ok v w' → w' = w
theorem RO.pure {α : Type} (a : α) : RO (Sem.pure a) := fun P w v w' e => by simp only [Sem.run, Result.ok.injEq] at e; exact e.2.symm
theorem RO.load {α : Type} {m : Mode} {p : Addr} {k : Value → Sem α} (hk : ∀ v, RO (k v)) : RO (Sem.load m p k) := fun P w v w' e => by
  simp only [Sem.run] at e
  split at e
  · exact hk _ P w v w' e
  · split at e
    · exact hk _ P w v w' e
    · cases e
theorem RO.program {α : Type} {k : Program → Sem α} (hk : ∀ p, RO (k p)) : RO (Sem.program k) := fun P w v w' e => hk _ P w v w' e
theorem RO.halt {α : Type} (x : Halt) : RO (Sem.halt x : Sem α) := fun P w v w' e => by simp [Sem.run] at e
theorem RO.loadCells (p : Addr) : ∀ (n i : Nat) (acc : Array Value) (f : Array Value → Sem Value), (∀ c, RO (f c)) → RO ((loadCellsFrom p i n acc).bind f) := by
  intro n
  induction n with
  | zero => exact fun i acc f hf => hf acc
  | succ n ih => exact fun i acc f hf => RO.load (k := fun v => (loadCellsFrom p (i + 1) n (acc.push v)).bind f) (fun v => ih _ _ f hf)
theorem RO.loadVar (t : TypeId) (p : Addr) : RO (loadVar t p) := by
  unfold Go.loadVar isAgg underlying sizeOf typeInfo
  refine RO.program (fun P => ?_)
  show RO (((match P.underlying t with | some d => Pure.pure d | none => stuck "no such type") : Sem TypeDesc).bind _ |>.bind _)
  cases P.underlying t with
  | none => exact RO.halt _
  | some d =>
    show RO ((((match d with | .struct _ | .array _ _ => Pure.pure true | _ => Pure.pure false) : Sem Bool)).bind _)
    have h1 : RO (do Pure.pure (Value.agg (← Go.loadCells p (← (do Pure.pure (← (do match (← Go.program).info? t with | some i => Pure.pure i | none => stuck "no such type")).size)))) : Sem Value) := by
      refine RO.program (fun P => ?_)
      show RO ((((match P.info? t with | some i => Pure.pure i | none => stuck "no such type") : Sem TypeInfo).bind _).bind _)
      cases hi : P.info? t with
      | none => exact RO.halt _
      | some i => exact RO.loadCells p i.size 0 #[] _ (fun c => RO.pure _)
    have h2 : RO (Go.load p) := RO.load (fun v => RO.pure v)
    cases d <;> first | exact h1 | exact h2

/-- The results, one behind the other. -/
def ResK (P : Program) (F : Fr) (tmps : Array Value) : List ResultVar → List Value → Hp → (Value → Hp → Prop) → Prop
  | [], acc, h, K => match acc with
    | [v] => K v h
    | acc => K (.tuple acc.toArray) h
  | .tmp t :: r, acc, h, K => ResK P F tmps r (acc ++ [tmps.getD t undef]) h K
  | .cell a t :: r, acc, h, K => match tmps.getD a undef with
    | .pointer (some ad) => dwp P F (loadVar t ad) h (fun v h' => ResK P F tmps r (acc ++ [v]) h' K)
    | _ => False
def resOne (tmps : Array Value) : ResultVar → Sem Value
  | .tmp t => pure (tmps.getD t undef)
  | .cell a t => do loadVar t (← asAddr (tmps.getD a undef))
def resTail (vs : Array Value) : Sem Value := pure (if h : vs.size = 1 then vs[0] else .tuple vs)
theorem results_eq (fn : Func) (tmps : Array Value) : results fn tmps = (fn.results.toList.mapM (resOne tmps)) >>= fun l => resTail l.toArray := by
  unfold results
  rw [Array.mapM_eq_mapM_toList]
  simp only [map_eq_pure_bind, bind_assoc, pure_bind]
  rfl
theorem ResK_run {P : Program} {F : Fr} {tmps : Array Value} {K : Value → Hp → Prop} {w : World} : ∀ (l : List ResultVar) (acc : List Value) (h : Hp), ResK P F tmps l acc h K → HRel F h w →
    ∃ v h', ((l.mapM (resOne tmps)) >>= fun r => resTail (acc ++ r).toArray).run P w = .ok v w ∧ K v h' ∧ HRel F h' w := by
  intro l
  induction l with
  | nil =>
    intro acc h hk r
    simp only [ResK] at hk
    refine ⟨if h : acc.toArray.size = 1 then acc.toArray[0] else .tuple acc.toArray, h, ?_, ?_, r⟩
    · simp only [List.mapM_nil, pure_bind, List.append_nil]; rfl
    · split at hk
      · exact hk
      · rename_i hne
        have : ¬ acc.toArray.size = 1 := fun e => by
          match acc, e, hne with
          | [v], _, hne => exact hne v rfl
        rw [dif_neg this]; exact hk
  | cons x l ih =>
    intro acc h hk r
    cases x with
    | tmp t =>
      simp only [ResK] at hk
      obtain ⟨v, h', e, k', r'⟩ := ih _ _ hk r
      refine ⟨v, h', ?_, k', r'⟩
      simp only [List.mapM_cons, bind_assoc, resOne, pure_bind] at e ⊢
      simpa only [List.append_assoc, List.singleton_append] using e
    | cell a t =>
      simp only [ResK] at hk
      split at hk
      · rename_i ad had
        obtain ⟨v, w1, h1, e1, k1, r1⟩ := dwp_run _ _ _ hk r
        have hw : w1 = w := RO.loadVar t ad P w v w1 e1
        subst hw
        obtain ⟨v', h', e, k', r'⟩ := ih _ _ k1 r1
        refine ⟨v', h', ?_, k', r'⟩
        simp only [List.mapM_cons, bind_assoc, resOne, pure_bind, had] at e ⊢
        show Sem.run P (loadVar t ad >>= _) w1 = _
        rw [Sem.run_bind, e1]
        simpa only [List.append_assoc, List.singleton_append, Result.andThen] using e
      · exact hk.elim

/-- The marks that ranges over functions have left among the deferred calls: each block is shut. -/
def DefK (K : Hp → Prop) : List Deferred → Hp → Prop
  | [], h => K h
  | d :: ds, h => match d.target with
    | .collected r => match h.own r with
      | some (.deferred (some [])) => DefK K ds (h.set r (.deferred none))
      | _ => False
    | _ => False
/-- What a function's end owes. -/
def Post (P : Program) (F : Fr) (rs : List ResultVar) (K : Value → Hp → Prop) : Exit → Act → Hp → Prop
  | .normal, a, h | .ret, a, h => DefK (fun h' => ResK P F a.tmps rs [] h' K) a.defers h
  | _, _, _ => False
theorem DefK_run {P : Program} {F : Fr} {fn : Func} {tmps : Array Value} {K : Hp → Prop} {R : Ending → World → Prop} (hK : ∀ h w, K h → HRel F h w → ∃ v, (results fn tmps).run P w = .ok v w ∧ R (.returned v) w) :
    ∀ (ds : List Deferred) (h : Hp) (w : World), DefK K ds h → HRel F h w → LeavesInM (wideR none) 0 P fn tmps R ds .returning w := by
  intro ds
  induction ds with
  | nil => exact fun h w hk r => hK h w hk r
  | cons d ds ih =>
    intro h w hk r
    simp only [DefK] at hk
    split at hk
    · rename_i b ht
      split at hk
      · rename_i ho
        refine ⟨by simp, .inl ⟨b, _, ht, run_takeDeferred (r.own _ _ ho), ih _ _ hk (r.put ho rfl)⟩⟩
      · exact hk.elim
    · exact hk.elim
theorem calls_of {P : Program} {F : Fr} {f : FuncId} {fn : Func} {c : Code} {args : Array Value} {h : Hp} {K : Value → Hp → Prop} {w : World} {rs : List ResultVar} (hf : P.funcs[f]? = some fn) (hb : fn.body = some c) (hr : fn.results.toList = rs) (r : HRel F h w)
    (hd : dcode P F c (Post P F rs K) { tmps := args ++ Array.replicate (fn.ntmps - args.size) undef, defers := [] } h) :
    Calls P f args w (fun e w' => ∃ v h', e = .returned v ∧ K v h' ∧ HRel F h' w') := by
  subst hr
  have key : ∀ (a : Act) (h' : Hp) (w' : World), HRel F h' w' → ResK P F a.tmps fn.results.toList [] h' K → ∃ v, (results fn a.tmps).run P w' = .ok v w' ∧ ∃ v₁ h₁, Ending.returned v = .returned v₁ ∧ K v₁ h₁ ∧ HRel F h₁ w' := by
    intro a h' w' r' q
    obtain ⟨v, h1, e, k1, r1⟩ := ResK_run _ _ _ q r'
    refine ⟨v, ?_, v, h1, rfl, k1, r1⟩
    rw [results_eq]
    simpa only [List.nil_append] using e
  refine (callsIn_wide (n := 0)).1 (callsIn_of_wp_marks (F := wideR none) hf hb trivial (wpIn_mono (dcode_sound _ _ _ _ hd none (fun _ => rfl) w r) fun e a' w' hh => ?_))
  obtain ⟨h', q, r'⟩ := hh
  cases e <;> simp only [Post] at q
  case normal => exact DefK_run (fun h w hk rr => key a' h w rr hk) a'.defers h' w' q r'
  case ret => exact DefK_run (fun h w hk rr => key a' h w rr hk) a'.defers h' w' q r'
theorem C1.of {P : Program} {f : FuncId} {fn : Func} {c : Code} {args : Array Value} {v : Value} {rs : List ResultVar} (hf : P.funcs[f]? = some fn) (hb : fn.body = some c) (hr : fn.results.toList = rs)
    (hd : ∀ F, dcode P F c (Post P F rs (fun v' _ => v' = v)) { tmps := args ++ Array.replicate (fn.ntmps - args.size) undef, defers := [] } Hp.none_) : C1 P f args v := by
  intro w
  refine (calls_of hf hb hr (HRel.start (Fr.of w) Hp.none_ (fun _ => rfl)) (hd _)).mono fun e w' hh => ?_
  obtain ⟨v', h', rfl, rfl, r'⟩ := hh
  exact ⟨rfl, r'.below (fun _ x => x)⟩
end Go.SL
