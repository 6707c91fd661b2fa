/-
  A walk over a part of memory: what a call owns and what it may read. Conditions: none. Plain theorems and definitions.
-/
import Derived.Test.YtlbpfmnobapidaaS15
import Derived.Deep.Slices
import Derived.Carry
set_option linter.unusedVariables false
set_option linter.unusedSimpArgs false
set_option linter.unusedVariables false
set_option linter.unusedSimpArgs false
namespace Go.SL
open Go.RowKit
section
variable {P : Program} {F : Fr} {h : Hp}
def setO (h : Hp) (b : Nat) : Option Obj → Hp
  | some o => h.set b o
  | none => h
theorem setO_some {b : Nat} {o : Obj} : setO h b (some o) = h.set b o := rfl
/-- Of a memory these blocks alone. -/
def onlyL : List (Option Nat) → Hp → Hp
  | [], _ => Hp.none_
  | none :: r, h => onlyL r h
  | some b :: r, h => setO (onlyL r h) b (h.own b)
theorem onlyL_nil : onlyL [] h = Hp.none_ := rfl
theorem onlyL_none {r : List (Option Nat)} : onlyL (none :: r) h = onlyL r h := rfl
theorem onlyL_some {b : Nat} {r : List (Option Nat)} : onlyL (some b :: r) h = setO (onlyL r h) b (h.own b) := rfl
theorem onlyL_le : ∀ {l : List (Option Nat)} {g : Nat} {o : Obj}, (onlyL l h).own g = some o → h.own g = some o
  | [], _, _, e => by cases e
  | none :: r, _, _, e => onlyL_le (l := r) e
  | some b :: r, g, o, e => by
    rw [onlyL_some] at e
    cases hb : h.own b with
    | none => rw [hb] at e; exact onlyL_le (l := r) e
    | some o' =>
      rw [hb, setO_some, Hp.own_set] at e
      split at e
      · rename_i hg; subst hg; rw [hb]; exact e
      · exact onlyL_le (l := r) e
/-- Behind a call: the memory is left with the blocks of some slots. -/
def FgK (ts : List Nat) (o : Oper) (a : Act) (K : Act → Hp → Prop) (v : Value) (h : Hp) : Prop := K (a.put o.dst v) (onlyL (ts.map fun t => blk (a.tmps.getD t undef)) h)
theorem FgK_app {ts : List Nat} {o : Oper} {a : Act} {K : Act → Hp → Prop} {v : Value} : FgK ts o a K v h = K (a.put o.dst v) (onlyL (ts.map fun t => blk (a.tmps.getD t undef)) h) := rfl
theorem DCall.forget (d : Nat) (ts : List Nat) {f : FuncId} {args : Array Value} {op : Op} {ty : TypeId} {pos : String} {af : Array Edge} {g : Option (Nat × Bool)} {a : Act} {K : Act → Hp → Prop}
    (hd : DCall P F f args h (FgK ts ⟨some d, op, ty, pos, af, g⟩ a K)) : DCall P F f args h (CallK ⟨some d, op, ty, pos, af, g⟩ a K) := by
  refine ⟨fun w r => ?_⟩
  refine (hd.out w r).mono fun e w' ⟨v, h', he, hv, r'⟩ => ⟨v, onlyL (ts.map fun t => blk (a.tmps.getD t undef)) h', he, hv, ?_⟩
  exact ⟨fun g o e => r'.own g o (onlyL_le e), r'.size, r'.os, r'.tape, r'.output, r'.frame, fun g o e => r'.mine g o (onlyL_le e)⟩
end
end Go.SL
set_option linter.unusedVariables false
set_option linter.unusedSimpArgs false
namespace Go.SL
open Go.RowKit
section
variable {α : Type} {d x v : α} {l : List α} {n : Nat}
def gL (d : α) : List α → Nat → α
  | [], _ => d
  | x :: _, 0 => x
  | _ :: l, n + 1 => gL d l n
theorem gL_nil : gL d [] n = d := rfl
theorem gL_zero : gL d (x :: l) 0 = x := rfl
theorem gL_succ : gL d (x :: l) (n + 1) = gL d l n := rfl
def sL (d : α) : List α → Nat → α → List α
  | [], 0, v => [v]
  | [], n + 1, v => d :: sL d [] n v
  | _ :: l, 0, v => v :: l
  | x :: l, n + 1, v => x :: sL d l n v
theorem sL_nil_zero : sL d [] 0 v = [v] := rfl
theorem sL_nil_succ : sL d [] (n + 1) v = d :: sL d [] n v := rfl
theorem sL_zero : sL d (x :: l) 0 v = v :: l := rfl
theorem sL_succ : sL d (x :: l) (n + 1) v = x :: sL d l n v := rfl
theorem gL_sL (d v : α) : ∀ (l : List α) (i j : Nat), gL d (sL d l i v) j = if j = i then v else gL d l j
  | [], 0, 0 => rfl
  | [], 0, _ + 1 => rfl
  | [], i + 1, 0 => rfl
  | [], i + 1, j + 1 => by
    rw [sL_nil_succ, gL_succ, gL_sL d v [] i j]
    by_cases h : j = i
    · rw [if_pos h, if_pos (by omega)]
    · rw [if_neg h, if_neg (by omega)]; rfl
  | x :: l, 0, 0 => rfl
  | x :: l, 0, j + 1 => rfl
  | x :: l, i + 1, 0 => rfl
  | x :: l, i + 1, j + 1 => by
    rw [sL_succ, gL_succ, gL_sL d v l i j]
    by_cases h : j = i
    · rw [if_pos h, if_pos (by omega)]
    · rw [if_neg h, if_neg (by omega)]; rfl
end
/-- What lies in a slot: in the chunks, or else by a function. -/
def lk (x : Nat → Value) (T : List (List (Option Value))) (i : Nat) : Value := (gL none (gL [] T (i / 16)) (i % 16)).getD (x i)
theorem lk_def {x : Nat → Value} {T : List (List (Option Value))} {i : Nat} : lk x T i = (gL none (gL [] T (i / 16)) (i % 16)).getD (x i) := rfl
def st (T : List (List (Option Value))) (i : Nat) (v : Value) : List (List (Option Value)) := sL [] T (i / 16) (sL none (gL [] T (i / 16)) (i % 16) (some v))
theorem st_def {T : List (List (Option Value))} {i : Nat} {v : Value} : st T i v = sL [] T (i / 16) (sL none (gL [] T (i / 16)) (i % 16) (some v)) := rfl
theorem lk_st (x : Nat → Value) (T : List (List (Option Value))) (i j : Nat) (v : Value) : lk x (st T i v) j = if j = i then v else lk x T j := by
  unfold lk st
  rw [gL_sL]
  by_cases h : j / 16 = i / 16
  · rw [if_pos h, gL_sL, ← h]
    by_cases h2 : j % 16 = i % 16
    · rw [if_pos h2, if_pos (by omega)]; rfl
    · rw [if_neg h2, if_neg (by omega)]
  · rw [if_neg h, if_neg (by omega)]
def fl (n : Nat) (x : Nat → Value) (T : List (List (Option Value))) : Array Value := ((List.range n).map (lk x T)).toArray
theorem fl_get {n i : Nat} {x : Nat → Value} {T : List (List (Option Value))} (h : i < n) : (fl n x T)[i]? = some (lk x T i) := by
  unfold fl
  rw [List.getElem?_toArray, List.getElem?_map, List.getElem?_range h]
  rfl
theorem fl_getD {n i : Nat} {x : Nat → Value} {T : List (List (Option Value))} {u : Value} (h : i < n) : (fl n x T).getD i u = lk x T i := by
  rw [Array.getD_eq_getD_getElem?, fl_get h]; rfl
theorem fl_size {n : Nat} {x : Nat → Value} {T : List (List (Option Value))} : (fl n x T).size = n := by simp [fl]
theorem fl_set {n i : Nat} {x : Nat → Value} {T : List (List (Option Value))} {v : Value} : (fl n x T).setIfInBounds i v = fl n x (st T i v) := by
  apply Array.ext_getElem?
  intro j
  rw [Array.getElem?_setIfInBounds, fl_size]
  by_cases hj : j < n
  · rw [fl_get hj, fl_get hj, lk_st]
    by_cases h : i = j
    · subst h; rw [if_pos rfl, if_pos hj, if_pos rfl]
    · rw [if_neg h, if_neg (fun e => h e.symm)]
  · have e1 : (fl n x T)[j]? = none := by rw [Array.getElem?_eq_none_iff, fl_size]; omega
    have e2 : (fl n x (st T i v))[j]? = none := by rw [Array.getElem?_eq_none_iff, fl_size]; omega
    rw [e1, e2]
    by_cases h : i = j
    · subst h; rw [if_pos rfl, if_neg hj]
    · rw [if_neg h]
theorem gL_map_some {l : List Value} {i : Nat} : gL none (l.map some) i = l[i]? := by
  induction l generalizing i with
  | nil => rfl
  | cons x l ih => cases i with
    | zero => rfl
    | succ i => simp only [List.map_cons, gL_succ, List.getElem?_cons_succ]; exact ih
theorem fl_enter {l : List Value} {n : Nat} (h16 : l.length ≤ 16) (hn : l.length ≤ n) : l.toArray ++ Array.replicate (n - l.toArray.size) undef = fl n (fun _ => undef) [l.map some] := by
  apply Array.ext_getElem?
  intro j
  rw [Array.getElem?_append]
  simp only [List.size_toArray]
  by_cases hj : j < n
  · rw [fl_get hj]
    by_cases h : j < l.length
    · rw [if_pos h]
      have e1 : j / 16 = 0 := by omega
      have e2 : j % 16 = j := by omega
      simp only [lk, e1, e2, gL_zero, gL_map_some, List.getElem?_toArray, List.getElem?_eq_getElem h, Option.getD_some]
    · rw [if_neg h, Array.getElem?_replicate, if_pos (by omega)]
      congr 1
      unfold lk
      by_cases e : j / 16 = 0
      · rw [e, gL_zero, gL_map_some, List.getElem?_eq_none (by omega)]; rfl
      · obtain ⟨k, hk⟩ : ∃ k, j / 16 = k + 1 := ⟨j / 16 - 1, by omega⟩
        rw [hk, gL_succ, gL_nil, gL_nil]; rfl
  · have e1 : (fl n (fun _ => undef) [l.map some])[j]? = none := by rw [Array.getElem?_eq_none_iff, fl_size]; omega
    rw [e1, if_neg (by omega), Array.getElem?_replicate, if_neg (by omega)]
section
variable {P : Program} {F : Fr} {h : Hp} {f : FuncId} {v : Value}
theorem Cr.ofF {fn : Func} {c : Code} {rs : List ResultVar} {ro : Addr → Option Value} {l : List Value} {n : Nat} (hf : P.funcs[f]? = some fn) (hn : fn.ntmps = n) (hb : fn.body = some c) (hr : fn.results.toList = rs) (h16 : l.length ≤ 16) (hl : l.length ≤ n)
    (hd : ∀ F : Fr, F.ro = ro → dcode P F c (Post P F rs (EqV v)) ⟨fl n (fun _ => undef) [l.map some], []⟩ Hp.none_) : Cr P f l.toArray ro v := by
  subst hn
  exact Cr.of hf hb hr (fun F hF => by rw [fl_enter h16 hl]; exact hd F hF)
theorem DCall.inlF {fn : Func} {c : Code} {K : Value → Hp → Prop} {rs : List ResultVar} {l : List Value} {n : Nat} (hf : P.funcs[f]? = some fn) (hn : fn.ntmps = n) (hb : fn.body = some c) (hr : fn.results.toList = rs) (h16 : l.length ≤ 16) (hl : l.length ≤ n)
    (hd : dcode P F c (Post P F rs K) ⟨fl n (fun _ => undef) [l.map some], []⟩ h) : DCall P F f l.toArray h K := by
  subst hn
  exact DCall.inl hf hb hr (by rw [fl_enter h16 hl]; exact hd)
/-- The same slots, by other chunks: what they don't hold lies in the function. -/
theorem fl_re {n : Nat} {x : Nat → Value} {T T2 : List (List (Option Value))} {ds : List Deferred} (e : fl n x T = fl n (lk x T) T2) : (⟨fl n x T, ds⟩ : Act) = ⟨fl n (lk x T) T2, ds⟩ := by rw [← e]
end
end Go.SL
set_option linter.unusedVariables false
set_option linter.unusedSimpArgs false
namespace Go.SL
open Go.RowKit
def part (i : Nat) : Code → Code
  | .seq x y => if i = 0 then x else y
  | .cond _ x y => if i = 0 then x else y
  | .block _ x => x
  | .loop x => x
  | .scope x => x
  | .rangeFunc _ _ x y => if i = 0 then x else y
  | c => c
/-- The part of a function's code at a place: the steps to it, the last one first. -/
def cat (f : Func) : List Nat → Code
  | [] => f.body.getD .skip
  | i :: p => part i (cat f p)
def isSeq : Code → Bool
  | .seq _ _ => true
  | _ => false
section
variable {P : Program} {F : Fr} {fn : Func} {p : List Nat} {Q : Exit → Act → Hp → Prop} {a : Act} {h : Hp}
theorem at_seq (e : isSeq (cat fn p) = true) (hd : dcode P F (cat fn (0 :: p)) (Then (Kont P F (cat fn (1 :: p)) Q) Q) a h) : dcode P F (cat fn p) Q a h := by
  have e0 : cat fn (0 :: p) = part 0 (cat fn p) := rfl
  have e1 : cat fn (1 :: p) = part 1 (cat fn p) := rfl
  rw [e0, e1] at hd
  generalize cat fn p = c at *
  cases c <;> first | exact hd | exact absurd e Bool.false_ne_true
theorem at_plain {id : Nat} {l : List Oper} (e : cat fn p = .region id l.toArray false) (hd : dops P F l.toArray (Q .normal) l a h) : dcode P F (cat fn p) Q a h := by rw [e]; exact hd
theorem at_draw {id : Nat} {l : List Oper} (e : cat fn p = .region id l.toArray true) (hd : DDraw P F id l.toArray (Q .normal) a h) : dcode P F (cat fn p) Q a h := by rw [e]; exact hd
theorem at_cond {c : Operand} {x y : Code} (e : cat fn p = .cond c x y) (hd : CondK P F (cat fn (0 :: p)) (cat fn (1 :: p)) Q a h (a.eval c)) : dcode P F (cat fn p) Q a h := by
  have e0 : cat fn (0 :: p) = x := by show part 0 (cat fn p) = x; rw [e]; rfl
  have e1 : cat fn (1 :: p) = y := by show part 1 (cat fn p) = y; rw [e]; rfl
  rw [e0, e1] at hd
  rw [e, dcode_cond]; exact hd
theorem at_block {id : Nat} {x : Code} (e : cat fn p = .block id x) (hd : dcode P F (cat fn (0 :: p)) (InBlock id Q) a h) : dcode P F (cat fn p) Q a h := by
  have e0 : cat fn (0 :: p) = x := by show part 0 (cat fn p) = x; rw [e]; rfl
  rw [e0] at hd
  rw [e]; exact hd
theorem at_loop {x : Code} (e : cat fn p = .loop x) (hd : DLoop P F (cat fn (0 :: p)) Q a h) : dcode P F (cat fn p) Q a h := by
  have e0 : cat fn (0 :: p) = x := by show part 0 (cat fn p) = x; rw [e]; rfl
  rw [e0] at hd
  rw [e]; exact hd
theorem at_skip (e : cat fn p = .skip) (hd : Q .normal a h) : dcode P F (cat fn p) Q a h := by rw [e]; exact hd
theorem at_label {l : Nat} (e : cat fn p = .label l) (hd : Q .normal a h) : dcode P F (cat fn p) Q a h := by rw [e]; exact hd
theorem at_exit {id : Nat} (e : cat fn p = .exit id) (hd : Q (.exit id) a h) : dcode P F (cat fn p) Q a h := by rw [e]; exact hd
theorem at_ret (e : cat fn p = .ret) (hd : Q .ret a h) : dcode P F (cat fn p) Q a h := by rw [e]; exact hd
def toB : Option Value → Option Bool
  | some (.bool b) => some b
  | _ => none
theorem yielded_eq {ops : Array Oper} {tmps : Array Value} {j : Nat} : yielded ops tmps j = toB (((ops[j]?).bind (·.dst)).bind (tmps[·]?)) := by
  unfold yielded toB
  split <;> simp_all
def yl (ops : Array Oper) (tmps : Array Value) (j : Nat) : Option Bool := toB (((ops[j]?).bind (·.dst)).bind (tmps[·]?))
theorem yl_def {ops : Array Oper} {tmps : Array Value} {j : Nat} : yl ops tmps j = toB (((ops[j]?).bind (·.dst)).bind (tmps[·]?)) := rfl
theorem GuardK_yl {ops : Array Oper} {K : Act → Hp → Prop} {o : Oper} {l : List Oper} {j : Nat} {b : Bool} : GuardK P F ops K o l a h (some (j, b)) = GuardB P F ops K o l a h b (yl ops a.tmps j) := by rw [GuardK_some, yielded_eq]; rfl
theorem GuardL_yl {S : Hp} {ops : Array Oper} {ov : Bool} {R : Act → Hp → Prop} {o : Oper} {j : Nat} {b : Bool} : GuardL P F S ops ov R o a h (some (j, b)) = GuardD P F S ov R o a h b (yl ops a.tmps j) := by rw [GuardL_some, yielded_eq]; rfl
theorem toB_bool {b : Bool} : toB (some (.bool b)) = some b := rfl
theorem toB_undef : toB (some undef) = none := rfl
theorem Cr.ofP {f : FuncId} {v : Value} {fn : Func} {rs : List ResultVar} {ro : Addr → Option Value} {l : List Value} {n : Nat} (hf : P.funcs[f]? = some fn) (hn : fn.ntmps = n) (hb : fn.body.isSome = true) (hr : fn.results.toList = rs) (h16 : l.length ≤ 16) (hl : l.length ≤ n)
    (hd : ∀ F : Fr, F.ro = ro → dcode P F (cat fn []) (Post P F rs (EqV v)) ⟨fl n (fun _ => undef) [l.map some], []⟩ Hp.none_) : Cr P f l.toArray ro v := by
  obtain ⟨c, hc⟩ := Option.isSome_iff_exists.1 hb
  have e : cat fn [] = c := by show fn.body.getD .skip = c; rw [hc]; rfl
  rw [e] at hd
  exact Cr.ofF hf hn hc hr h16 hl hd
theorem DCall.inlP {f : FuncId} {fn : Func} {K : Value → Hp → Prop} {rs : List ResultVar} {l : List Value} {n : Nat} (hf : P.funcs[f]? = some fn) (hn : fn.ntmps = n) (hb : fn.body.isSome = true) (hr : fn.results.toList = rs) (h16 : l.length ≤ 16) (hl : l.length ≤ n)
    (hd : dcode P F (cat fn []) (Post P F rs K) ⟨fl n (fun _ => undef) [l.map some], []⟩ h) : DCall P F f l.toArray h K := by
  obtain ⟨c, hc⟩ := Option.isSome_iff_exists.1 hb
  have e : cat fn [] = c := by show fn.body.getD .skip = c; rw [hc]; rfl
  rw [e] at hd
  exact DCall.inlF hf hn hc hr h16 hl hd
end
end Go.SL
set_option linter.unusedVariables false
set_option linter.unusedSimpArgs false
namespace Go.SL
open Go.RowKit
section
variable {P : Program} {F : Fr} {h : Hp}
theorem Fr.inr_w0 : F.inr.w0 = F.w0 := rfl
theorem Fr.inr_ro : F.inr.ro = F.ro := rfl
theorem Fr.inr_M : F.inr.M = F.M := rfl
theorem cell_inr {a : Addr} : h.cell? F.inr a = h.cell? F a := rfl
def LoopO (K : Loop → Hp → Prop) (h : Hp) : Option Obj → Prop
  | some (.loop r) => K r h
  | _ => False
theorem LoopO_some {K : Loop → Hp → Prop} {r : Loop} : LoopO K h (some (.loop r)) = K r h := rfl
theorem dwp_getLoop {l : Nat} {r : Loop} {K : Loop → Hp → Prop} (e : h.own l = some (.loop r)) : dwp P F (Instr.getLoop l) h K = K r h := by
  unfold Instr.getLoop
  rw [dwp_bind', dwp_getObj', e]
  rfl
/-- A call of yield: a round is asked for. -/
def YieldK (P : Program) (F : Fr) (l : Nat) (args : Array Value) (K : Next → Hp → Prop) (h : Hp) : Option Obj → Prop
  | some (.loop r) => args.size = r.params.size ∧ K (.round l r.fn ((r.params.zip args).foldl (fun tmps (t, a) => tmps.setIfInBounds t a) r.tmps) r.assign r.body) h
  | _ => False
theorem YieldK_some {l : Nat} {args : Array Value} {K : Next → Hp → Prop} {r : Loop} : YieldK P F l args K h (some (.loop r)) =
    (args.size = r.params.size ∧ K (.round l r.fn ((r.params.zip args).foldl (fun tmps (t, a) => tmps.setIfInBounds t a) r.tmps) r.assign r.body) h) := rfl
theorem dwp_yield {l : Nat} {args : Array Value} {K : Next → Hp → Prop} (H : YieldK P F l args K h (h.own l)) : dwp P F (Instr.yield l args) h K := by
  cases e : h.own l with
  | none => rw [e] at H; exact H.elim
  | some o =>
    rw [e] at H
    cases o <;> try exact H.elim
    rename_i r
    obtain ⟨h1, h2⟩ := H
    unfold Instr.yield
    rw [dwp_bind', dwp_getLoop e, BindK_app, if_neg (by simpa using h1)]
    exact h2
/-- The end of a round. -/
def EndR (L : Nat) (j : Option Code) (K : Value → Hp → Prop) (h : Hp) : Option Obj → Prop
  | some (.loop r) => K (.bool j.isNone) (h.set L (.loop { r with state := if j.isNone then .ready else .done, pending := j }))
  | _ => False
def RoundQ (L : Nat) (K : Value → Hp → Prop) : Exit → Act → Hp → Prop
  | .normal, _, h => EndR L none K h (h.own L)
  | .ret, _, h => EndR L (some .ret) K h (h.own L)
  | .exit id, _, h => EndR L (some (.exit id)) K h (h.own L)
  | _, _, _ => False
theorem RoundQ_normal {L : Nat} {K : Value → Hp → Prop} {a : Act} : RoundQ L K .normal a h = EndR L none K h (h.own L) := rfl
theorem RoundQ_ret {L : Nat} {K : Value → Hp → Prop} {a : Act} : RoundQ L K .ret a h = EndR L (some .ret) K h (h.own L) := rfl
theorem RoundQ_exit {L id : Nat} {K : Value → Hp → Prop} {a : Act} : RoundQ L K (.exit id) a h = EndR L (some (.exit id)) K h (h.own L) := rfl
theorem EndR_none {L : Nat} {K : Value → Hp → Prop} {r : Loop} : EndR L none K h (some (.loop r)) = K (.bool true) (h.set L (.loop { r with state := .ready, pending := none })) := rfl
theorem EndR_some {L : Nat} {c : Code} {K : Value → Hp → Prop} {r : Loop} : EndR L (some c) K h (some (.loop r)) = K (.bool false) (h.set L (.loop { r with state := .done, pending := some c })) := rfl
/-- Behind the assignment: the round begins. -/
def BegR (P : Program) (F : Fr) (L : Nat) (body : Code) (K : Value → Hp → Prop) (a : Act) (h : Hp) : Option Obj → Prop
  | some (.loop r) => r.state = .ready ∧ dcode P F body (RoundQ L K) a (h.set L (.loop { r with state := .busy }))
  | _ => False
def BegK (P : Program) (F : Fr) (L : Nat) (body : Code) (K : Value → Hp → Prop) (a : Act) (h : Hp) : Prop := BegR P F L body K a h (h.own L)
theorem BegK_app {L : Nat} {body : Code} {K : Value → Hp → Prop} {a : Act} : BegK P F L body K a h = BegR P F L body K a h (h.own L) := rfl
theorem BegR_some {L : Nat} {body : Code} {K : Value → Hp → Prop} {a : Act} {r : Loop} : BegR P F L body K a h (some (.loop r)) = (r.state = .ready ∧ dcode P F body (RoundQ L K) a (h.set L (.loop { r with state := .busy }))) := rfl
def NoQ : Exit → Act → Hp → Prop := fun _ _ _ => False
theorem endRound_ok {L : Nat} {j : Option Code} {K : Value → Hp → Prop} {w : World} (r : HRel F h w) (H : EndR L j K h (h.own L)) :
    ∃ v w', (Instr.endRound L j).run P w = .ok v w' ∧ ∃ v' h', Ending.returned v = .returned v' ∧ K v' h' ∧ HRel F h' w' := by
  cases e : h.own L with
  | none => rw [e] at H; exact H.elim
  | some o =>
    rw [e] at H
    cases o <;> try exact H.elim
    rename_i q
    exact ⟨_, _, run_endRound j (r.own _ _ e), _, _, rfl, H, r.put e rfl⟩
theorem DRound.intro {L : Nat} {f : FuncId} {tmps : Array Value} {assign body : Code} {K : Value → Hp → Prop}
    (H : dcode P F.inr assign (Then (BegK P F.inr L body K) NoQ) ⟨tmps, []⟩ h) : DRound P F L f tmps assign body h K := by
  intro w r
  have h1 := dcode_sound _ _ _ _ H (some L) (fun e => by simp [Fr.inr] at e) w (HRel.inr.2 r)
  have h2 : assign.wpIn (Fence.wide.inRound L) 0 P (Exit.then (fun a1 w1 => ∃ w2, (Instr.beginRound L).run P w1 = .ok () w2 ∧ body.wpIn (Fence.wide.inRound L) 0 P (roundPost P L (fun e w' => ∃ v h', e = .returned v ∧ K v h' ∧ HRel F h' w')) a1 w2) (fun _ _ _ => False)) ⟨tmps, []⟩ w := by
    refine wpIn_mono h1 fun e a1 w1 hh => ?_
    obtain ⟨h', q, r'⟩ := hh
    cases e with
    | normal =>
      replace q : BegR P F.inr L body K a1 h' (h'.own L) := q
      cases e : h'.own L with
      | none => rw [e] at q; exact q.elim
      | some o =>
        rw [e] at q
        cases o <;> try exact q.elim
        rename_i u
        obtain ⟨hs, hb⟩ := q
        refine ⟨_, run_beginRound (r'.own _ _ e) hs, ?_⟩
        have r2 : HRel F.inr (h'.set L (.loop { u with state := .busy })) _ := r'.put e rfl
        refine wpIn_mono (dcode_sound _ _ _ _ hb (some L) (fun e => by simp [Fr.inr] at e) _ r2) fun e2 a2 w3 hh2 => ?_
        obtain ⟨h3, q3, r3⟩ := hh2
        have r4 := HRel.inr.1 r3
        cases e2 with
        | normal => exact endRound_ok r4 q3
        | ret => exact endRound_ok r4 q3
        | exit id => exact endRound_ok r4 q3
        | _ => exact q3.elim
    | _ => exact q.elim
  exact roundIn_of_wpIn trivial h2

/-- Behind the iterator. -/
def OutR (Q : Exit → Act → Hp → Prop) (a : Act) (L : Nat) (h : Hp) : Option Code → Prop
  | none => Q .normal a (h.drop L)
  | some .ret => Q .ret a (h.drop L)
  | some (.exit id) => Q (.exit id) a (h.drop L)
  | _ => False
theorem OutR_none {Q : Exit → Act → Hp → Prop} {a : Act} {L : Nat} : OutR Q a L h none = Q .normal a (h.drop L) := rfl
theorem OutR_ret {Q : Exit → Act → Hp → Prop} {a : Act} {L : Nat} : OutR Q a L h (some .ret) = Q .ret a (h.drop L) := rfl
theorem OutR_exit {Q : Exit → Act → Hp → Prop} {a : Act} {L id : Nat} : OutR Q a L h (some (.exit id)) = Q (.exit id) a (h.drop L) := rfl
def LeftR (Q : Exit → Act → Hp → Prop) (a : Act) (L : Nat) (h : Hp) : Option Obj → Prop
  | some (.loop r) => r.state ≠ .busy ∧ OutR Q a L h r.pending
  | _ => False
theorem LeftR_some {Q : Exit → Act → Hp → Prop} {a : Act} {L : Nat} {r : Loop} : LeftR Q a L h (some (.loop r)) = (r.state ≠ .busy ∧ OutR Q a L h r.pending) := rfl
def LeftK (Q : Exit → Act → Hp → Prop) (a : Act) (L : Nat) (_ : Value) (h : Hp) : Prop := LeftR Q a L h (h.own L)
theorem LeftK_app {Q : Exit → Act → Hp → Prop} {a : Act} {L : Nat} {v : Value} : LeftK Q a L v h = LeftR Q a L h (h.own L) := rfl
/-- The record of a loop. -/
def recL (fn : FuncId) (tmps : Array Value) (ps : Array Tmp) (assign body : Code) (D : Nat) : Loop := { state := .ready, pending := none, fn, tmps, params := ps, assign, body, defers := D }
theorem HRel.dropped {w : World} {g : Nat} (r : HRel F h w) : HRel F (h.drop g) w := by
  refine ⟨fun k o e => ?_, r.size, r.os, r.tape, r.output, r.frame, fun k o e => ?_⟩
  · simp only [Hp.drop] at e; split at e
    · cases e
    · exact r.own _ _ e
  · simp only [Hp.drop] at e; split at e
    · cases e
    · exact r.mine _ _ e
theorem HRel.unown {w : World} {g : Nat} {o : Obj} (r : HRel F h w) (e : h.own g = some o) (o' : Obj) : HRel F (h.drop g) (w.putObj g o') := by
  have r2 : HRel F (h.set g o') (w.putObj g o') := r.put e rfl
  have r3 := r2.dropped (g := g)
  have e2 : (h.set g o').drop g = h.drop g := by
    unfold Hp.set Hp.drop
    congr 1
    funext k
    by_cases hk : k = g <;> simp [hk]
  rw [e2] at r3
  exact r3
theorem DWp.rangeFunc {g : Operand} {ps : Array Tmp} {assign body : Code} {Q : Exit → Act → Hp → Prop} {a : Act} {gf : Nat} {lb : Array Value} (hT : F.top = true) (hg : a.eval g = .func (.func gf) #[] lb) (he : entB P gf = true)
    (H : ∀ D, F.w0.heap.size ≤ D → h.own D = none → ∀ L, F.w0.heap.size ≤ L → (h.set D (.deferred (some []))).own L = none → ∀ fn,
      DCall P F gf (#[.func (.yield L) #[] #[]] ++ lb) ((h.set D (.deferred (some []))).set L (.loop (recL fn a.tmps ps assign body D)))
        (LeftK Q { a with defers := ⟨.collected D, #[]⟩ :: a.defers } L)) : DWp P F (.rangeFunc g ps assign body) Q a h := by
  intro ro hro w r
  obtain rfl := hro hT
  refine wpIn_rangeFunc fun fn _ => ?_
  have hfr := r.fresh
  have r1 := r.new (.deferred (some []))
  have hfr2 := r1.fresh
  have r2 := r1.new (.loop (recL fn a.tmps ps assign body w.heap.size))
  have hsz : (w.heap.push (Obj.deferred (some []))).size = w.heap.size + 1 := by simp
  have hc := H w.heap.size r.size hfr _ r1.size hfr2 fn
  have eg : ∀ w', (callFunc gf (#[Value.func (.yield (w.heap.size + 1)) #[] #[]] ++ lb)).run P w' = .ok (.enter gf (#[Value.func (.yield (w.heap.size + 1)) #[] #[]] ++ lb)) w' := by
    intro w'
    unfold entB at he
    cases ho : P.funcs[gf]? with
    | none => rw [ho] at he; simp at he
    | some f =>
      rw [ho] at he
      simp only [Option.map_some, Option.getD_some, Bool.and_eq_true, Bool.not_eq_true'] at he
      simp only [callFunc, program, bind, Sem.bind, Sem.run, ho, he.1, he.2, Bool.false_eq_true, if_false]
      rfl
  obtain ⟨W1, hW1⟩ : ∃ W1, (w.alloc (.deferred (some []))).alloc (.loop (recL fn a.tmps ps assign body w.heap.size)) = W1 := ⟨_, rfl⟩
  refine ⟨w.heap.size + 1, [⟨.collected w.heap.size, #[]⟩], W1, ⟨.fn (.func gf) lb, #[.func (.yield (w.heap.size + 1)) #[] #[]]⟩, W1, gf, #[.func (.yield (w.heap.size + 1)) #[] #[]] ++ lb, W1, ?_, ?_, fun f' _ => trivial, ?_, fun e => by simp [wideR, Fence.wide] at e, ?_⟩
  · rw [← hW1]; exact run_enterLoop_outer _ _ _ _ _
  · simp only [resolve, hg]
    simp [go_sem]
  · simp [invoke, eg]
  · rw [hsz] at hc
    refine callsIn_wideR (ro := none) ((hc.out W1 ?_).mono ?_)
    · rw [hsz] at r2
      rw [← hW1]
      exact r2
    · rintro e w3 ⟨v, h3, rfl, k3, r3⟩
      replace k3 : LeftR Q { a with defers := ⟨.collected w.heap.size, #[]⟩ :: a.defers } (w.heap.size + 1) h3 (h3.own (w.heap.size + 1)) := k3
      cases e : h3.own (w.heap.size + 1) with
      | none => rw [e] at k3; exact k3.elim
      | some o =>
        rw [e] at k3
        cases o <;> try exact k3.elim
        rename_i u
        obtain ⟨hb, ho⟩ := k3
        have r4 := r3.unown e (.loop { u with state := .exhausted })
        refine ⟨_, _, run_endLoop (r3.own _ _ e) hb, ?_⟩
        cases hp : u.pending with
        | none => rw [hp] at ho r4; exact ⟨_, ho, r4⟩
        | some c =>
          rw [hp] at ho r4
          cases c <;> try exact ho.elim
          case ret => exact wpIn_ret ⟨_, ho, r4⟩
          case exit id => exact wpIn_exit ⟨_, ho, r4⟩
theorem at_rangeFunc {fn : Func} {p : List Nat} {g : Operand} {ps : Array Tmp} {x y : Code} {Q : Exit → Act → Hp → Prop} {a : Act} (e : cat fn p = .rangeFunc g ps x y) (hd : DWp P F (.rangeFunc g ps (cat fn (0 :: p)) (cat fn (1 :: p))) Q a h) : dcode P F (cat fn p) Q a h := by
  have e0 : cat fn (0 :: p) = x := by show part 0 (cat fn p) = x; rw [e]; rfl
  have e1 : cat fn (1 :: p) = y := by show part 1 (cat fn p) = y; rw [e]; rfl
  rw [e0, e1] at hd
  rw [e]; exact hd
end
end Go.SL
set_option linter.unusedVariables false
set_option linter.unusedSimpArgs false
namespace Go.SL
open Go.RowKit
section
variable {P : Program} {F : Fr} {S : Hp} {ops : Array Oper}
/-- The last operation, behind all others. -/
def LastK (P : Program) (F : Fr) (ops : Array Oper) (o : Oper) (K : Act → Hp → Prop) (a : Act) (h : Hp) : Prop := dops P F ops K [o] a h
theorem LastK_app {o : Oper} {K : Act → Hp → Prop} {a : Act} {h : Hp} : LastK P F ops o K a h = dops P F ops K [o] a h := rfl
theorem last_sound (ro : Option Nat) {o : Oper} {i : Nat} {a : Act} {h : Hp} {w : World} {K : Act → Hp → Prop} {Q : Exit → Act → World → Prop} (ho : ops[i]? = some o) (r : HRel F h w)
    (hs : LastK P F ops o K a h) : wpOpIn (wideR ro) 0 P ops Q i (fun a' w' => ∃ h', K a' h' ∧ HRel F h' w') a w := by
  unfold wpOpIn
  simp only [ho]
  simp only [LastK, dops] at hs
  split
  · rename_i hw
    simp only [hw, if_true] at hs
    exact dop_sound ro hs r
  · rename_i hw
    simp only [hw] at hs
    exact ⟨wideR_about, h, hs, r⟩
theorem wpAnyL_of (ro : Option Nat) {n : Nat} {last : Oper} {A : List (List Nat)} {kinds : Nat → Kind} {K : Act → Hp → Prop} {Q : Exit → Act → World → Prop} (hq : ∀ a h w, K a h → HRel F h w → Q .normal a w)
    (hn : ops.size = n + 1) (hlast : ops[n]? = some last) (hall : ∀ j, j < n → j ∈ A.getD n [])
    (hA : ∀ j o, ops[j]? = some o → (∀ p ∈ preds o, p < j) ∧ ∀ k ∈ A.getD j [], ∃ p ∈ preds o, p = k ∨ k ∈ A.getD p [])
    (hsel : ∀ j, selB (itemOf kinds ops j).2 = false)
    (hp : ∀ j, j < n → ∀ i, i < j → i ∈ A.getD j [] ∨ ((itemOf kinds ops i).2.apart ops (itemOf kinds ops j).2 = true ∧ okKinds (kinds i) (kinds j) = true)) :
    ∀ (fuel : Nat) (listed : Array Bool) (l : List Nat) (a : Act) (h : Hp) (w : World), listed.size = ops.size → Closed ops listed → l.Pairwise (· < ·) → (∀ j, j ∈ l ↔ j < n ∧ listed.getD j true = false) → listed.getD n true = false → l.length + 1 ≤ fuel →
      T P F S ops (LastK P F ops last K) (l.map (itemOf kinds ops)) a h → Inv F S h → HRel F h w → wpAnyIn (wideR ro) 0 P .any ops Q fuel listed a w := by
  intro fuel
  induction fuel with
  | zero => intro listed l a h w _ _ _ _ _ hlen; omega
  | succ fuel ih =>
    intro listed l a h w hs hc hsort hl hun hlen ht hi r
    have hnn : n < ops.size := by omega
    refine ⟨fun hr => ?_, fun i hi' => ?_⟩
    · exfalso
      -- something is ready: the first that is not listed
      have key : ∀ j, j < ops.size → listed.getD j true = false → (∀ i, i < j → ¬ listed.getD i true = false) → False := by
        intro j hj hlj hbefore
        have ho : ops[j]? = some ops[j] := Array.getElem?_eq_getElem hj
        have : j ∈ Region.ready .any ops listed := by
          rw [mem_ready]
          refine ⟨hlj, _, ho, fun e he hb => ?_⟩
          have hp' : e.on ∈ preds ops[j] := mem_preds.2 ⟨e, he, hb, rfl⟩
          have hlt := (hA j _ ho).1 _ hp'
          have hn2 := hbefore e.on hlt
          simp only [Array.getD_eq_getD_getElem?] at hn2 ⊢
          rw [Array.getElem?_eq_getElem (by omega)] at hn2 ⊢
          simpa using hn2
        rw [hr] at this
        cases this
      cases l with
      | nil =>
        refine key n hnn hun fun i hi hli => ?_
        have := (hl i).2 ⟨hi, hli⟩
        cases this
      | cons j l =>
        obtain ⟨h1, h2⟩ := (hl j).1 (List.mem_cons_self ..)
        refine key j (by omega) h2 fun i hi hli => ?_
        have hm := (hl i).2 ⟨by omega, hli⟩
        rcases List.mem_cons.1 hm with hm | hm
        · omega
        · have := (List.pairwise_cons.1 hsort).1 _ hm; omega
    · obtain ⟨h0, o, ho, hedges⟩ := mem_ready.1 hi'
      have hlt : i < ops.size := (Array.getElem?_eq_some_iff.1 ho).1
      have hpl : ∀ p ∈ preds o, listed.getD p false = true := fun p hp' => by
        obtain ⟨e, he, hb, rfl⟩ := mem_preds.1 hp'
        exact hedges e he hb
      by_cases hin : i = n
      · subst hin
        rw [hlast] at ho
        simp only [Option.some.injEq] at ho
        subst ho
        have hnil : l = [] := by
          cases l with
          | nil => rfl
          | cons j l =>
            exfalso
            obtain ⟨h1, h2⟩ := (hl j).1 (List.mem_cons_self ..)
            have h4 := anc_listed hA hc hs i last hlast hpl j (hall j h1)
            simp only [Array.getD_eq_getD_getElem?] at h4 h2
            rw [Array.getElem?_eq_getElem (by omega)] at h4 h2
            simp only [Option.getD_some] at h4 h2
            rw [h4] at h2
            cases h2
        subst hnil
        refine wpOpIn_mono (fun a' w' hh => ?_) (last_sound ro hlast r ht)
        obtain ⟨h', q1, q3⟩ := hh
        have hdone : Region.ready .any ops (listed.setIfInBounds i true) = [] := by
          cases hr : Region.ready .any ops (listed.setIfInBounds i true) with
          | nil => rfl
          | cons x xs =>
            exfalso
            have hx : x ∈ Region.ready .any ops (listed.setIfInBounds i true) := by rw [hr]; exact List.mem_cons_self ..
            obtain ⟨g0, ox, hox, _⟩ := mem_ready.1 hx
            have hxs : x < ops.size := (Array.getElem?_eq_some_iff.1 hox).1
            by_cases hxi : i = x
            · subst hxi
              simp [hs, hlt] at g0
            · rw [getD_set_ne true hxi] at g0
              have := (hl x).2 ⟨by omega, g0⟩
              cases this
        cases fuel with
        | zero => exact ⟨hdone, hq _ _ _ q1 q3⟩
        | succ f => exact ⟨fun _ => hq _ _ _ q1 q3, fun j hj => by rw [hdone] at hj; cases hj⟩
      · have hm : i ∈ l := (hl i).2 ⟨by omega, h0⟩
        obtain ⟨l1, l2, rfl⟩ := List.append_of_mem hm
        have hpw := List.pairwise_append.1 hsort
        have hit : itemOf kinds ops i = (kinds i, o) := by simp [itemOf, ho]
        rw [List.map_append, List.map_cons] at ht
        have h2 := T_out (P := P) (F := F) (S := S) (ops := ops) (K := LastK P F ops last K) (o := itemOf kinds ops i) (l2 := l2.map (itemOf kinds ops)) (l1.map (itemOf kinds ops)) a h hi (fun k hk => by
          obtain ⟨j, hj, rfl⟩ := List.mem_map.1 hk
          have hji : j < i := hpw.2.2 j hj i (List.mem_cons_self ..)
          refine ⟨hsel j, ?_⟩
          rcases hp i (by omega) j hji with h3 | h3
          · exfalso
            have h4 := anc_listed hA hc hs i o ho hpl j h3
            have h5 := ((hl j).1 (List.mem_append_left _ hj)).2
            simp only [Array.getD_eq_getD_getElem?] at h4 h5
            rw [Array.getElem?_eq_getElem (by omega)] at h4 h5
            simp only [Option.getD_some] at h4 h5
            rw [h4] at h5
            cases h5
          · exact h3) (hsel i) ht
        rw [hit, ← List.map_append] at h2
        refine wpOpIn_mono (fun a' w' hh => ?_) (St.sound ro ho hi r h2)
        obtain ⟨h', q1, q2, q3⟩ := hh
        refine ih (listed.setIfInBounds i true) (l1 ++ l2) a' h' w' (by simp [hs]) ?_ ?_ ?_ ?_ ?_ q2 q1 q3
        · intro j oj hoj hlj p hpp
          by_cases hij : i = j
          · subst hij
            rw [ho] at hoj
            simp only [Option.some.injEq] at hoj
            subst hoj
            exact getD_set_true (hpl p hpp)
          · rw [getD_set_ne true hij] at hlj
            exact getD_set_true (hc j oj hoj hlj p hpp)
        · exact hsort.sublist (List.Sublist.append (List.Sublist.refl l1) (List.sublist_cons_self i l2))
        · intro j
          have hnot : i ∉ l1 ++ l2 := by
            intro hmem
            rcases List.mem_append.1 hmem with hm1 | hm2
            · have := hpw.2.2 i hm1 i (List.mem_cons_self ..); omega
            · have := (List.pairwise_cons.1 hpw.2.1).1 i hm2; omega
          by_cases hij : i = j
          · subst hij
            refine ⟨fun hmem => absurd hmem hnot, fun hh => ?_⟩
            have := hh.2
            simp [hs, hlt] at this
          · rw [getD_set_ne true hij, ← hl j]
            simp only [List.mem_append, List.mem_cons]
            constructor
            · rintro (h3 | h3)
              · exact .inl h3
              · exact .inr (.inr h3)
            · rintro (h3 | h3 | h3)
              · exact .inl h3
              · exact absurd h3.symm hij
              · exact .inr h3
        · rw [getD_set_ne true hin]; exact hun
        · simp only [List.length_append, List.length_cons] at hlen ⊢
          omega
/-- A region that draws whose last operation waits for all others. -/
def okDrawL (over : List Nat) (l : List Oper) (o : Oper) : Bool :=
  let A := ancs (l ++ [o]) []
  okAnc (l ++ [o]) A && (okPairs (items over l) (l ++ [o]).toArray A && (!selB o && (List.range l.length).all fun j => (A.getD l.length []).contains j))
theorem DDraw.ofL {id : Nat} {l : List Oper} {o : Oper} {K : Act → Hp → Prop} {a : Act} {h : Hp} (over : List Nat) (S : Hp) (hm : P.follows .mixedOrders = true) (hok : okDrawL over l o = true) (hS : ∀ g o, S.own g = some o → h.own g = some o)
    (ht : T P F S (l ++ [o]).toArray (LastK P F (l ++ [o]).toArray o K) (items over l) a h) : DDraw P F id (l ++ [o]).toArray K a h := by
  intro Q hQ ro _ w r
  refine wpIn_region_any hm ?_
  unfold okDrawL at hok
  simp only [Bool.and_eq_true, Bool.not_eq_true', List.all_eq_true, List.mem_range, List.contains_iff_mem] at hok
  obtain ⟨ok1, ok2, ok3, ok4⟩ := hok
  have r' : HRel F h { w with drawn := w.drawn + 1 } := r.drew _
  have hi : Inv F S h := ⟨hS, ⟨w.heap.size, fun g hg => by
    cases e : h.own g with
    | none => rfl
    | some o => have := own_lt r e; omega⟩, r.mine⟩
  have hsz : (l ++ [o]).toArray.size = l.length + 1 := by simp
  have hL : ∀ j, j < l.length → (l ++ [o]).toArray[j]? = l[j]? := fun j hj => by simp [List.getElem?_append_left hj]
  have hget : ∀ j q, l[j]? = some q → itemOf (fun j => (((items over l)[j]?).map (·.1)).getD .ev) (l ++ [o]).toArray j = (if over.contains j then overKind q.op else kindOf q.op, q) := by
    intro j q hq
    have hj : j < l.length := (List.getElem?_eq_some_iff.1 hq).1
    unfold itemOf
    dsimp only
    rw [items_get (over := over) hq, hL j hj, hq]
    rfl
  have hitems : (List.range l.length).map (itemOf (fun j => (((items over l)[j]?).map (·.1)).getD .ev) (l ++ [o]).toArray) = items over l := by
    apply List.ext_getElem?
    intro j
    by_cases hj : j < l.length
    · have ho : l[j]? = some l[j] := List.getElem?_eq_getElem hj
      rw [items_get ho, List.getElem?_map, List.getElem?_range hj, Option.map_some, hget j _ ho]
    · have h1 : (items over l).length = l.length := by simp [items]
      rw [List.getElem?_eq_none (by simp; omega), List.getElem?_eq_none (by omega)]
  have hlast : (l ++ [o]).toArray[l.length]? = some o := by simp
  refine wpAnyL_of ro (n := l.length) (last := o) (P := P) (F := F) (S := S) (A := ancs (l ++ [o]) []) (kinds := fun j => (((items over l)[j]?).map (·.1)).getD .ev) (K := K) (fun a h w hk rr => ⟨h, hQ _ _ hk, rr⟩) hsz hlast ok4 ?_ ?_ ?_ (l ++ [o]).toArray.size _ (List.range l.length) a h _ (by simp) ?_ ?_ ?_ ?_ ?_ ?_ hi r'
  · intro j q hq
    exact okAnc_spec ok1 j q (by simpa using hq)
  · intro j
    by_cases hj : j < l.length
    · have ho : l[j]? = some l[j] := List.getElem?_eq_getElem hj
      rw [hget j _ ho]
      exact (okPairs_spec ok2 j _ (items_get ho)).1
    · by_cases hj2 : j = l.length
      · subst hj2
        unfold itemOf
        rw [hlast]
        exact ok3
      · unfold itemOf
        rw [Array.getElem?_eq_none (by omega)]
        rfl
  · intro j hj i hij
    have ho : l[j]? = some l[j] := List.getElem?_eq_getElem hj
    have ho' : l[i]? = some (l[i]'(by omega)) := List.getElem?_eq_getElem (by omega)
    have h1 := (okPairs_spec ok2 j _ (items_get ho)).2 i _ hij (items_get ho')
    rw [hget j _ ho, hget i _ ho', items_get ho, items_get ho']
    exact h1
  · intro j q hq hl
    exfalso
    have hlt : j < l.length + 1 := by have := (Array.getElem?_eq_some_iff.1 hq).1; omega
    simp [hlt] at hl
  · exact List.pairwise_lt_range
  · intro j
    simp only [List.mem_range]
    constructor
    · intro hj; exact ⟨hj, by simp [show j < l.length + 1 by omega]⟩
    · exact fun hh => hh.1
  · simp
  · simp
  · rw [hitems]; exact ht
def initL {α : Type} : List α → List α
  | [] => []
  | [_] => []
  | x :: y :: r => x :: initL (y :: r)
theorem initL_one {α : Type} {x : α} : initL [x] = [] := rfl
theorem initL_cons {α : Type} {x y : α} {r : List α} : initL (x :: y :: r) = x :: initL (y :: r) := rfl
def lastL {α : Type} (d : α) : List α → α
  | [] => d
  | [x] => x
  | _ :: y :: r => lastL d (y :: r)
theorem lastL_one {α : Type} {d x : α} : lastL d [x] = x := rfl
theorem lastL_cons {α : Type} {d x y : α} {r : List α} : lastL d (x :: y :: r) = lastL d (y :: r) := rfl
theorem DDraw.toldL {id : Nat} {L : List Oper} {l : List Oper} {o : Oper} {K : Act → Hp → Prop} {a : Act} {h : Hp} (over : List Nat) (roots : List Operand) (hm : P.follows .mixedOrders = true) (e : L = l ++ [o]) (hok : okDrawL over l o = true)
    (ht : TI P F (drops a roots h) (l ++ [o]).toArray (LastK P F (l ++ [o]).toArray o K) over 0 l a h) : DDraw P F id L.toArray K a h := by
  subst e
  exact DDraw.ofL over _ hm hok (fun _ _ e => drops_le e) (by unfold items; rw [TI_eq]; exact ht)
theorem initL_last {α : Type} (d : α) : ∀ (l : List α), l ≠ [] → l = initL l ++ [lastL d l]
  | [], h => absurd rfl h
  | [x], _ => rfl
  | x :: y :: r, _ => by rw [initL_cons, lastL_cons, List.cons_append, ← initL_last d (y :: r) (by simp)]
theorem DDraw.lasts {id : Nat} {x : Oper} {r : List Oper} {K : Act → Hp → Prop} {a : Act} {h : Hp} (over : List Nat) (roots : List Operand) (hm : P.follows .mixedOrders = true) (hok : okDrawL over (initL (x :: r)) (lastL x (x :: r)) = true)
    (ht : TI P F (drops a roots h) (x :: r).toArray (LastK P F (x :: r).toArray (lastL x (x :: r)) K) over 0 (initL (x :: r)) a h) : DDraw P F id (x :: r).toArray K a h := by
  have e := initL_last x (x :: r) (by simp)
  refine DDraw.toldL over roots hm e hok ?_
  rw [← e]
  exact ht
end
end Go.SL
set_option linter.unusedVariables false
set_option linter.unusedSimpArgs false
namespace Go.SL
open Go.RowKit
section
variable {P : Program} {F : Fr} {S h : Hp} {a : Act}
theorem DRound.inv {l f : Nat} {tmps : Array Value} {assign body : Code} {R : Value → Hp → Prop}
    (hd : DRound P F l f tmps assign body h (fun v h' => (∀ g o, S.own g = some o → h'.own g = some o) ∧ R v h')) : DRound P F l f tmps assign body h (fun v h' => Inv F S h' ∧ R v h') :=
  fun w r => (hd w r).mono fun e w' ⟨v, h', he, ⟨hk, hr⟩, rr⟩ => ⟨v, h', he, ⟨⟨hk, ⟨w'.heap.size, fun g hg => by
    cases e : h'.own g with
    | none => rfl
    | some o => have := own_lt rr e; omega⟩, rr.mine⟩, hr⟩, rr⟩
theorem exec_yield {dst : Option Tmp} {t : Operand} {xs : Array Operand} {ts : Array TypeId} {ty : TypeId} {pos : String} {af : Array Edge} {g : Option (Nat × Bool)} {L : Nat} (hv : a.eval t = .func (.yield L) #[] #[]) :
    execOp a.eval ⟨dst, .call ⟨.value t, xs, ts⟩, ty, pos, af, g⟩ = Instr.yield L (xs.map a.eval) := by
  simp only [execOp, resolve, hv]
  simp [go_sem, invoke]
/-- A call of yield in a region that draws. -/
theorem stp_yield {dst : Option Tmp} {t : Operand} {xs : Array Operand} {ts : Array TypeId} {ty : TypeId} {pos : String} {af : Array Edge} {g : Option (Nat × Bool)} {L : Nat} {r : Loop} {ys : Array Value} {R : Act → Hp → Prop} (hv : a.eval t = .func (.yield L) #[] #[]) (hy : xs.map a.eval = ys)
    (ho : h.own L = some (.loop r)) (hs : ys.size = r.params.size)
    (H : DRound P F L r.fn ((r.params.zip ys).foldl (fun tmps (t, a) => tmps.setIfInBounds t a) r.tmps) r.assign r.body h (fun v h' => (∀ g o, S.own g = some o → h'.own g = some o) ∧ R (a.put dst v) h')) :
    stp P F S true ⟨dst, .call ⟨.value t, xs, ts⟩, ty, pos, af, g⟩ a h R := by
  have ek : overKind (.call ⟨.value t, xs, ts⟩) = .gen := by
    cases t <;> first | rfl | (exfalso; revert hv; simp [Act.eval])
  show StK P F S (overKind (.call ⟨.value t, xs, ts⟩)) _ h _
  rw [ek]
  rw [exec_yield hv, hy]
  intro hi
  unfold vop
  refine dwp_yield ?_
  rw [ho]
  exact ⟨hs, DRound.inv H⟩
/-- The same in a region in the order of the text. -/
theorem dop_yield {dst : Option Tmp} {t : Operand} {xs : Array Operand} {ts : Array TypeId} {ty : TypeId} {pos : String} {af : Array Edge} {g : Option (Nat × Bool)} {L : Nat} {r : Loop} {ys : Array Value} {R : Act → Hp → Prop} (hv : a.eval t = .func (.yield L) #[] #[]) (hy : xs.map a.eval = ys)
    (ho : h.own L = some (.loop r)) (hs : ys.size = r.params.size)
    (H : DRound P F L r.fn ((r.params.zip ys).foldl (fun tmps (t, a) => tmps.setIfInBounds t a) r.tmps) r.assign r.body h (fun v h' => R (a.put dst v) h')) :
    dop P F ⟨dst, .call ⟨.value t, xs, ts⟩, ty, pos, af, g⟩ a h R := by
  unfold dop
  rw [exec_yield hv, hy]
  refine dwp_yield ?_
  rw [ho]
  exact ⟨hs, H⟩
theorem recL_state {fn : FuncId} {t : Array Value} {ps : Array Tmp} {x y : Code} {D : Nat} : (recL fn t ps x y D).state = .ready := rfl
theorem recL_pending {fn : FuncId} {t : Array Value} {ps : Array Tmp} {x y : Code} {D : Nat} : (recL fn t ps x y D).pending = none := rfl
theorem fold2 {t : Array Value} {p q : Nat} {u v : Value} : Array.foldl (fun (tmps : Array Value) (x : Nat × Value) => tmps.setIfInBounds x.1 x.2) t (#[p, q].zip #[u, v]) = (t.setIfInBounds p u).setIfInBounds q v := by
  simp
theorem fold1 {t : Array Value} {p : Nat} {u : Value} : Array.foldl (fun (tmps : Array Value) (x : Nat × Value) => tmps.setIfInBounds x.1 x.2) t (#[p].zip #[u]) = t.setIfInBounds p u := by
  simp
/-- Of what is owned a part alone is looked at. -/
theorem DCall.weak {f : FuncId} {args : Array Value} {K : Value → Hp → Prop} (hd : DCall P F f args h (fun v h' => ∃ h2, (∀ g o, h2.own g = some o → h'.own g = some o) ∧ K v h2)) : DCall P F f args h K := by
  refine ⟨fun w r => ?_⟩
  refine (hd.out w r).mono fun e w' ⟨v, h', he, ⟨h2, hk, hv⟩, r'⟩ => ⟨v, h2, he, hv, ?_⟩
  exact ⟨fun g o e => r'.own g o (hk g o e), r'.size, r'.os, r'.tape, r'.output, r'.frame, fun g o e => r'.mine g o (hk g o e)⟩
end
end Go.SL
set_option linter.unusedVariables false
namespace Go.SL
section
variable {P : Program} {f : FuncId} {args : Array Value} {v : Value} {ro : Addr → Option Value}
theorem Cr.ofD (hd : ∀ F : Fr, F.ro = ro → F.top = true → DCall P F f args Hp.none_ (fun u _ => u = v)) : Cr P f args ro v := by
  refine ⟨fun w hw => ?_⟩
  let F : Fr := ⟨w, fun _ => False, ro, fun a u e => ⟨hw a u e, fun x => x⟩, true⟩
  refine ((hd F rfl rfl).out w (HRel.start F Hp.none_ (fun _ => rfl))).mono fun e w' hh => ?_
  obtain ⟨v', h', he, hv, r'⟩ := hh
  exact ⟨by rw [he, hv], r'.below (fun _ x => x)⟩
end
section
variable {P : Program} {F : Fr} {S h : Hp} {a : Act} {f : FuncId} {args : Array Value}
/-- A call, in a region that draws, that can stand in any greater heap. -/
theorem stp_rob {dst : Option Tmp} {f0 : FuncId} {xs : Array Operand} {ts : Array TypeId} {ty : TypeId} {pos : String} {af : Array Edge} {g : Option (Nat × Bool)} {K : Act → Hp → Prop}
    (e : rval P F (execOp a.eval ⟨dst, .call ⟨.value (.func f0), xs, ts⟩, ty, pos, af, g⟩) S = some (.enter f args)) (H : Inv F S h → RobK P F S h f args (PutK a dst K)) :
    stp P F S true ⟨dst, .call ⟨.value (.func f0), xs, ts⟩, ty, pos, af, g⟩ a h K := fun hi => ⟨f, args, e, H hi⟩
theorem kept_none {h h1 : Hp} (hs : ∀ g o, h.own g = some o → h1.own g = some o) {g : Nat} (hn : h1.own g = none) : h.own g = none := by
  cases e : h.own g with
  | none => rfl
  | some o => rw [hs g o e] at hn; cases hn
/-- A call that leaves all as it is. -/
theorem RobK.zero {K : Value → Hp → Prop} {v : Value} (c : ∀ h1 : Hp, (∀ g o, h.own g = some o → h1.own g = some o) → Cr P f args (h1.cell? F) v) (hi : Inv F S h) (H : K v h) : RobK P F S h f args K :=
  fun h1 hs _ => Cr.call (c h1 hs) ⟨h, hi, H, hs, fun _ _ e1 e2 => ⟨e1, e2⟩⟩
/-- A call that makes one block. -/
theorem RobK.one {X : Type} {val : Nat → X → Value} {ob : Nat → X → Obj} {K : Value → Hp → Prop}
    (c : ∀ h1 (K' : Value → Hp → Prop), (∀ g o, h.own g = some o → h1.own g = some o) → (∀ g x, F.w0.heap.size ≤ g → h1.own g = none → K' (val g x) (h1.set g (ob g x))) → DCall P F f args h1 K')
    (hi : Inv F S h) (H : ∀ g x, F.w0.heap.size ≤ g → h.own g = none → K (val g x) (h.set g (ob g x))) : RobK P F S h f args K := by
  intro h1 hs hi1
  refine c h1 _ hs fun g x hg hn => ?_
  have hn' := kept_none hs hn
  refine ⟨h.set g (ob g x), hi.set (hi.none hn') (.inl hg), H g x hg hn', fun b o e => ?_, fun b o e1 e2 => ?_⟩
  · rw [Hp.own_set] at e ⊢
    split at e
    · rename_i hb; rw [if_pos hb]; exact e
    · rename_i hb; rw [if_neg hb]; exact hs b o e
  · have hb : b ≠ g := by rintro rfl; rw [hn] at e1; cases e1
    exact ⟨by rw [Hp.own_set, if_neg hb]; exact e1, by rw [Hp.own_set, if_neg hb]; exact e2⟩
/-- A call that makes two blocks. -/
theorem RobK.two {X : Type} {val : Nat → Nat → X → Value} {oa ob : Nat → Nat → X → Obj} {K : Value → Hp → Prop}
    (c : ∀ h1 (K' : Value → Hp → Prop), (∀ g o, h.own g = some o → h1.own g = some o) → (∀ p q x, F.w0.heap.size ≤ p → F.w0.heap.size ≤ q → h1.own p = none → h1.own q = none → p ≠ q → K' (val p q x) ((h1.set p (oa p q x)).set q (ob p q x))) → DCall P F f args h1 K')
    (hi : Inv F S h) (H : ∀ p q x, F.w0.heap.size ≤ p → F.w0.heap.size ≤ q → h.own p = none → h.own q = none → p ≠ q → K (val p q x) ((h.set p (oa p q x)).set q (ob p q x))) : RobK P F S h f args K := by
  intro h1 hs hi1
  refine c h1 _ hs fun p q x hp hq np nq hpq => ?_
  have np' := kept_none hs np
  have nq' := kept_none hs nq
  refine ⟨(h.set p (oa p q x)).set q (ob p q x), (hi.set (hi.none np') (.inl hp)).set (hi.none nq') (.inl hq), H p q x hp hq np' nq' hpq, fun b o e => ?_, fun b o e1 e2 => ?_⟩
  · rw [Hp.own_set, Hp.own_set] at e ⊢
    split at e
    · rename_i hb; rw [if_pos hb]; exact e
    · rename_i hb
      rw [if_neg hb]
      split at e
      · rename_i hb2; rw [if_pos hb2]; exact e
      · rename_i hb2; rw [if_neg hb2]; exact hs b o e
  · have h1' : b ≠ p := by rintro rfl; rw [np] at e1; cases e1
    have h2' : b ≠ q := by rintro rfl; rw [nq] at e1; cases e1
    exact ⟨by rw [Hp.own_set, if_neg h2', Hp.own_set, if_neg h1']; exact e1, by rw [Hp.own_set, if_neg h2', Hp.own_set, if_neg h1']; exact e2⟩
end
end Go.SL
set_option linter.unusedVariables false
set_option linter.unusedSimpArgs false
namespace Go.SL
open Go.RowKit
section
variable {P : Program} {F : Fr} {S h : Hp} {a : Act}
/-- The same for a function with arguments that are bound already. -/
theorem DWp.rangeFuncB {g : Operand} {ps : Array Tmp} {assign body : Code} {Q : Exit → Act → Hp → Prop} {a : Act} {gf : Nat} {ba lb : Array Value} (hT : F.top = true) (hg : a.eval g = .func (.func gf) ba lb) (he : entB P gf = true)
    (H : ∀ D, F.w0.heap.size ≤ D → h.own D = none → ∀ L, F.w0.heap.size ≤ L → (h.set D (.deferred (some []))).own L = none → ∀ fn,
      DCall P F gf (ba ++ #[.func (.yield L) #[] #[]] ++ lb) ((h.set D (.deferred (some []))).set L (.loop (recL fn a.tmps ps assign body D)))
        (LeftK Q { a with defers := ⟨.collected D, #[]⟩ :: a.defers } L)) : DWp P F (.rangeFunc g ps assign body) Q a h := by
  intro ro hro w r
  obtain rfl := hro hT
  refine wpIn_rangeFunc fun fn _ => ?_
  have hfr := r.fresh
  have r1 := r.new (.deferred (some []))
  have hfr2 := r1.fresh
  have r2 := r1.new (.loop (recL fn a.tmps ps assign body w.heap.size))
  have hsz : (w.heap.push (Obj.deferred (some []))).size = w.heap.size + 1 := by simp
  have hc := H w.heap.size r.size hfr _ r1.size hfr2 fn
  have eg : ∀ w', (callFunc gf (ba ++ #[Value.func (.yield (w.heap.size + 1)) #[] #[]] ++ lb)).run P w' = .ok (.enter gf (ba ++ #[Value.func (.yield (w.heap.size + 1)) #[] #[]] ++ lb)) w' := by
    intro w'
    unfold entB at he
    cases ho : P.funcs[gf]? with
    | none => rw [ho] at he; simp at he
    | some f =>
      rw [ho] at he
      simp only [Option.map_some, Option.getD_some, Bool.and_eq_true, Bool.not_eq_true'] at he
      simp only [callFunc, program, bind, Sem.bind, Sem.run, ho, he.1, he.2, Bool.false_eq_true, if_false]
      rfl
  obtain ⟨W1, hW1⟩ : ∃ W1, (w.alloc (.deferred (some []))).alloc (.loop (recL fn a.tmps ps assign body w.heap.size)) = W1 := ⟨_, rfl⟩
  refine ⟨w.heap.size + 1, [⟨.collected w.heap.size, #[]⟩], W1, ⟨.fn (.func gf) lb, ba ++ #[.func (.yield (w.heap.size + 1)) #[] #[]]⟩, W1, gf, ba ++ #[.func (.yield (w.heap.size + 1)) #[] #[]] ++ lb, W1, ?_, ?_, fun f' _ => trivial, ?_, fun e => by simp [wideR, Fence.wide] at e, ?_⟩
  · rw [← hW1]; exact run_enterLoop_outer _ _ _ _ _
  · simp only [resolve, hg]
    simp [go_sem]
  · simpa [invoke] using eg W1
  · rw [hsz] at hc
    refine callsIn_wideR (ro := none) ((hc.out W1 ?_).mono ?_)
    · rw [hsz] at r2
      rw [← hW1]
      exact r2
    · rintro e w3 ⟨v, h3, rfl, k3, r3⟩
      replace k3 : LeftR Q { a with defers := ⟨.collected w.heap.size, #[]⟩ :: a.defers } (w.heap.size + 1) h3 (h3.own (w.heap.size + 1)) := k3
      cases e : h3.own (w.heap.size + 1) with
      | none => rw [e] at k3; exact k3.elim
      | some o =>
        rw [e] at k3
        cases o <;> try exact k3.elim
        rename_i u
        obtain ⟨hb, ho⟩ := k3
        have r4 := r3.unown e (.loop { u with state := .exhausted })
        refine ⟨_, _, run_endLoop (r3.own _ _ e) hb, ?_⟩
        cases hp : u.pending with
        | none => rw [hp] at ho r4; exact ⟨_, ho, r4⟩
        | some c =>
          rw [hp] at ho r4
          cases c <;> try exact ho.elim
          case ret => exact wpIn_ret ⟨_, ho, r4⟩
          case exit id => exact wpIn_exit ⟨_, ho, r4⟩
end
end Go.SL
set_option linter.unusedVariables false
set_option linter.unusedSimpArgs false
namespace Go.SL
open Go.RowKit Go.ChangeShapes Go.WideShapes Go.ChangeAt
/-- A slice of n elements, of s cells each, whose cells can be read. -/
structure RdS (ro : Addr → Option Value) (p : Option Addr) (n s : Nat) (cells : List Value) : Prop where
  len : cells.length = n * s
  rd : n = 0 ∨ ∃ b off, p = some ⟨b, off, none⟩ ∧ readV ro b off (n * s) = some cells
theorem RdS.mono {ro ro' : Addr → Option Value} {p : Option Addr} {n s : Nat} {cells : List Value} (h : RdS ro p n s cells) (hr : ∀ a u, ro a = some u → ro' a = some u) : RdS ro' p n s cells :=
  ⟨h.len, h.rd.imp id fun ⟨b, off, e, r⟩ => ⟨b, off, e, readV_mono hr r⟩⟩
theorem RdS.pos {ro : Addr → Option Value} {p : Option Addr} {n s : Nat} {cells : List Value} (h : RdS ro p n s cells) (hn : 0 < n) : ∃ b off, p = some ⟨b, off, none⟩ ∧ readV ro b off (n * s) = some cells := by
  rcases h.rd with e | e
  · omega
  · exact e
theorem RdS.at {α : Type} {f : α → List Value} {ro : Addr → Option Value} {p : Option Addr} {n s i : Nat} {L : List α} {a : α} (h : RdS ro p n s (L.flatMap f)) (hf : ∀ a, (f a).length = s) (hi : i < n) (ha : L[i]? = some a) :
    ∃ b off, p = some ⟨b, off, none⟩ ∧ ∀ j v, (f a)[j]? = some v → ro ⟨b, off + i * s + j, none⟩ = some v := by
  obtain ⟨b, off, e, r⟩ := h.pos (by omega)
  exact ⟨b, off, e, readV_at hf r ha⟩
theorem RdS.of {ro : Addr → Option Value} {b off n s : Nat} {cells : List Value} (h : readV ro b off (n * s) = some cells) : RdS ro (some ⟨b, off, none⟩) n s cells :=
  ⟨readV_len h, .inr ⟨b, off, rfl, h⟩⟩
theorem RdS.zero {ro : Addr → Option Value} {p : Option Addr} {s : Nat} : RdS ro p 0 s [] := ⟨by simp, .inl rfl⟩
theorem RdS.count {α : Type} {f : α → List Value} {ro : Addr → Option Value} {p : Option Addr} {n s : Nat} {L : List α} (h : RdS ro p n s (L.flatMap f)) (hf : ∀ a, (f a).length = s) (hs : 0 < s) : L.length = n := by
  have h1 := h.len
  rw [flat_len hf] at h1
  exact Nat.eq_of_mul_eq_mul_right hs h1
theorem readV_of_get {ro : Addr → Option Value} {b : Nat} : ∀ {cells : List Value} {off : Nat}, (∀ i v, cells[i]? = some v → ro ⟨b, off + i, none⟩ = some v) → readV ro b off cells.length = some cells
  | [], _, _ => rfl
  | x :: r, off, h => by
    rw [List.length_cons, readV_succ]
    have h0 := h 0 x rfl
    rw [Nat.add_zero] at h0
    rw [h0, readVC_some, readV_of_get (cells := r) (off := off + 1) fun i v e => by have := h (i + 1) v (by simpa using e); rwa [Nat.add_assoc, Nat.add_comm 1 i]]
    rfl
/-- What the cells of a value of a type are. -/
def Opn (P : Program) (t : TypeId) (R : (Addr → Option Value) → List Value → Prop) : Prop :=
  ∀ (H : Type) (enc : TypeId × Value → H) (w : World) (fuel : Nat) (cs : List Value) (x : DataW H × List MemPlace), DataW.trod enc P w 0 (fun _ => true) true fuel t cs = some x → R w.cell? cs
section
variable {P : Program} {t e : TypeId}
theorem Opn.imp {R R' : (Addr → Option Value) → List Value → Prop} (h : Opn P t R) (hi : ∀ ro cs, R ro cs → R' ro cs) : Opn P t R' :=
  fun H enc w fuel cs x hx => hi _ _ (h H enc w fuel cs x hx)
theorem Opn.flat {ks : List IntKind} (hf : Flat P t ks) : Opn P t (fun _ cs => ∃ xs : List Int, xs.length = ks.length ∧ cs = intsAs ks xs ∧ wfAs ks xs) :=
  fun H enc w fuel cs x hx => (hf H enc w 0 _ _ fuel cs x hx).1
theorem Opn.bool (ht : P.underlying t = some .bool) : Opn P t (fun _ cs => ∃ b, cs = [.bool b]) :=
  fun H enc w fuel cs x hx => by obtain ⟨b, h, _⟩ := DataW.trod_bool ht hx; exact ⟨b, h⟩
theorem Opn.slice {α : Type} [Inhabited α] {f : α → List Value} {Q : α → Prop} {s : Nat} (ht : P.underlying t = some (.slice e)) (hs : P.cellsOf e = s) (hpos : 0 < s) (hf : ∀ a, (f a).length = s)
    (he : Opn P e (fun _ cs => ∃ a, cs = f a ∧ Q a)) :
    Opn P t (fun ro cs => ∃ (p : Option Addr) (n c : Nat) (L : List α), cs = [.slice p n c] ∧ L.length = n ∧ n ≤ 9223372036854775807 ∧ RdS ro p n s (L.flatMap f) ∧ ∀ a ∈ L, Q a) := by
  intro H enc w fuel cs x hx
  rcases Go.Deep.open_slice ht hx with ⟨rfl, _⟩ | ⟨a, len, cap, m, k, D, Pl, rfl, hb, hl, hm, hmm, _, hi⟩
  · exact ⟨none, 0, 0, [], rfl, rfl, by omega, RdS.zero, by simp⟩
  · have hlm : len ≤ m := by rw [hmm]; split <;> omega
    rw [hs] at hi
    obtain ⟨g, hg⟩ := Go.Deep.choose_lt (α := α) (n := len) (p := fun i y => w.cells? 0 (a.add (i * s)) s = some (f y) ∧ Q y) (fun i hlt => by
      obtain ⟨cs', h1, h2⟩ := hi i (by omega)
      obtain ⟨y, rfl, hy⟩ := he H enc w k cs' _ h2
      exact ⟨y, h1, hy⟩)
    have hL : ((List.range len).map g).length = len := by simp
    have hml : maxLen = 9223372036854775807 := by decide
    refine ⟨some a, len, cap, (List.range len).map g, rfl, hL, by rw [hml] at hm; omega, ⟨by rw [flat_len hf, hL], ?_⟩, fun y hy => ?_⟩
    · rcases Nat.eq_zero_or_pos len with h0 | h0
      · exact .inl h0
      · right
        have hcell : ∀ i, i < len → ∀ j, j < s → w.cell? (a.add (i * s + j)) = (f (g i))[j]? := by
          intro i hlt j hj
          have := (World.cells?_some (hg i hlt).1).2.2 j hj
          rwa [Go.Deep.add_add] at this
        have hsp : a.spot = none := by
          have h1 := hcell 0 h0 0 hpos
          have h2 : (f (g 0))[0]? = some ((f (g 0))[0]'(by rw [hf]; exact hpos)) := List.getElem?_eq_getElem _
          rw [h2, Nat.zero_mul, Nat.zero_add] at h1
          have h3 : a.add 0 = a := by unfold Addr.add; rw [if_pos rfl]
          rw [h3] at h1
          unfold World.cell? at h1
          split at h1
          · split at h1
            · cases h1
            · rename_i hn; simpa using hn
          · cases h1
        obtain ⟨b, off, spot⟩ := a
        simp only at hsp
        subst hsp
        refine ⟨b, off, rfl, ?_⟩
        have hlen : (((List.range len).map g).flatMap f).length = len * s := by rw [flat_len hf, hL]
        rw [← hlen]
        refine readV_of_get fun i v hv => ?_
        have hlt : i < len * s := by have := (List.getElem?_eq_some_iff.1 hv).1; omega
        have hq : i / s < len := Nat.div_lt_of_lt_mul (by rw [Nat.mul_comm]; exact hlt)
        have hr : i % s < s := Nat.mod_lt _ hpos
        have hd : i / s * s + i % s = i := by rw [Nat.mul_comm]; exact Nat.div_add_mod i s
        have h1 := flat_get hf ((List.range len).map g) (i / s) (i % s) (g (i / s)) (by simp [hq]) hr
        rw [hd, hv] at h1
        have h2 := hcell _ hq _ hr
        rw [hd, add_none, ← h1] at h2
        exact h2
    · obtain ⟨i, hi', rfl⟩ := List.mem_map.1 hy
      exact (hg i (by simpa using hi')).2
inductive OpnFs (P : Program) (z : Nat) : Nat → List Field → ((Addr → Option Value) → List Value → Prop) → Prop
  | nil : OpnFs P z z [] (fun _ cs => cs = [])
  | cons {o s : Nat} {f : Field} {r : List Field} {R1 R2 : (Addr → Option Value) → List Value → Prop} (ho : f.offset = o) (hc : P.cellsOf f.type = s) (hf : Opn P f.type R1) (hr : OpnFs P z (o + s) r R2) :
      OpnFs P z o (f :: r) (fun ro cs => ∃ c1 c2, cs = c1 ++ c2 ∧ R1 ro c1 ∧ R2 ro c2)
theorem OpnFs.all {z : Nat} {H : Type} {enc : TypeId × Value → H} {w : World} {n : Nat} {cs : List Value} : ∀ {o : Nat} {fl : List Field} {R : (Addr → Option Value) → List Value → Prop}, OpnFs P z o fl R →
    cs.length = z → (∀ f ∈ fl, ∃ y, DataW.trod enc P w 0 (fun _ => true) true n f.type ((cs.drop f.offset).take (P.cellsOf f.type)) = some y) → R w.cell? (cs.drop o) := by
  intro o fl R h
  induction h with
  | nil => intro hl _; exact List.drop_eq_nil_of_le (by omega)
  | @cons o s f r R1 R2 ho hc hf hr ih =>
    intro hl hy
    obtain ⟨y, hy0⟩ := hy f (by simp)
    rw [ho, hc] at hy0
    refine ⟨(cs.drop o).take s, cs.drop (o + s), ?_, hf H enc w n _ y hy0, ih hl fun g hg => hy g (by simp [hg])⟩
    rw [← List.drop_drop]
    exact (List.take_append_drop _ _).symm
theorem Opn.struct {fs : Array Field} {R : (Addr → Option Value) → List Value → Prop} {z : Nat} (ht : P.underlying t = some (.struct fs)) (hc : P.cellsOf t = z) (hf : OpnFs P z 0 fs.toList R) : Opn P t R := by
  intro H enc w fuel cs x hx
  obtain ⟨xs, n, rfl, _, hl, hn, hi⟩ := DataW.trod_struct ht hx
  have := hf.all (cs := cs) (w := w) (enc := enc) (n := n) (by omega) (fun f hm => by
    obtain ⟨i, hlt, hfi⟩ := List.getElem_of_mem hm
    have hlt' : i < fs.size := by simpa using hlt
    have e1 : fs[i]? = some f := by rw [Array.getElem?_eq_getElem hlt']; simpa using hfi
    have h1 := hi i f e1
    rw [List.getElem?_eq_getElem (by omega)] at h1
    exact ⟨_, h1⟩)
  simpa using this
/-- An argument that came in, by its cells. -/
theorem Opn.arg {R : (Addr → Option Value) → List Value → Prop} (h : Opn P t R) {H : Type} {enc : TypeId × Value → H} {w : World} {v : Value} {d : DataW H} {ps : List MemPlace} (hd : DataW.Trod enc P w 0 (fun _ => true) true t v d ps) :
    R w.cell? v.cells.toList := by
  obtain ⟨fuel, hf⟩ := hd
  exact h H enc w fuel _ _ hf
theorem agg_of {r : Reach} {w : World} {b0 : Nat} {fs : Array Field} {v : Value} (ht : P.underlying t = some (.struct fs)) (hval : Value.okWide P w r b0 t v) : ∃ cs, v = .agg cs := by
  have := hval
  unfold Value.okWide at this
  rw [ht] at this
  cases v <;> simp_all
theorem one_of {r : Reach} {w : World} {b0 : Nat} {v : Value} (ht : P.underlying t = some (.slice e)) (hval : Value.okWide P w r b0 t v) : v.cells = #[v] := by
  have h1 := hval
  unfold Value.okWide at h1
  rw [ht] at h1
  have h2 : Cell.okWide P w r b0 t v := h1
  cases v <;> first | rfl | (simp [Cell.okWide, Cell.ok, ht] at h2)
theorem trodAll_below {H : Type} {enc : TypeId × Value → H} {W W' : World} (hl : laidOutB P = true) (hb : Below W.heap.size W W') : ∀ {ts : List TypeId} {vs : List Value} {ds : List (DataW H)} {ps : List MemPlace}, (∀ t ∈ ts, P.readableRec t = true ∧ t < P.types.size) →
    DataW.TrodAll enc P W 0 (fun _ => true) true ts vs ds ps → DataW.TrodAll enc P W' 0 (fun b => decide (b < W.heap.size)) true ts vs ds ps
  | [], vs, ds, ps, _, h => by
    obtain ⟨rfl, rfl, rfl⟩ := trodAll_nil h
    exact trodAll_mk0
  | t :: ts, vs, ds, ps, hr, h => by
    have hlt := DataW.TrodAll.lt h
    obtain ⟨v, vs', d, ds', p, q, rfl, rfl, rfl, hd, hrest⟩ := trodAll_cons h
    have r0 := hr t (by simp)
    exact trodAll_cons_mk (Below.trod hl r0.1 r0.2 hd hb fun x hx => hlt x (by simp [hx])) (trodAll_below hl hb (fun u hu => hr u (by simp [hu])) hrest)
end
/-! ### A loop of which only a part of memory is carried on -/
def LoopW (I : Nat → Act → Hp → Prop) (k : Nat) (a : Act) (h : Hp) : Prop := ∃ k' h', k' < k ∧ (∀ g o, h'.own g = some o → h.own g = some o) ∧ I k' a h'
theorem LoopW.intro {I : Nat → Act → Hp → Prop} {k : Nat} {a : Act} {h : Hp} (k' : Nat) (h' : Hp) (h1 : k' < k) (hs : ∀ g o, h'.own g = some o → h.own g = some o) (h2 : I k' a h') : LoopW I k a h := ⟨k', h', h1, hs, h2⟩
theorem HRel.sub {F : Fr} {h h' : Hp} {w : World} (r : HRel F h w) (hs : ∀ g o, h'.own g = some o → h.own g = some o) : HRel F h' w :=
  ⟨fun g o e => r.own g o (hs g o e), r.size, r.os, r.tape, r.output, r.frame, fun g o e => r.mine g o (hs g o e)⟩
theorem DLoop.indW {P : Program} {F : Fr} {h : Hp} {c : Code} {Q : Exit → Act → Hp → Prop} {a : Act} (I : Nat → Act → Hp → Prop) (n : Nat) (h0 : I n a h) (step : ∀ k a h, I k a h → dcode P F c (Then (LoopW I k) Q) a h) : DLoop P F c Q a h := by
  intro ro hro w r
  refine wpIn_loop_ghost (fun n a w => ∃ h, I n a h ∧ HRel F h w) n ⟨h, h0, r⟩ ?_
  rintro k a w ⟨h, hI, r⟩
  refine wpIn_mono (dcode_sound _ _ _ _ (step k a h hI) ro hro w r) ?_
  rintro e a' w' ⟨h', q, r'⟩
  cases e with
  | normal =>
    obtain ⟨k', h2, h1, hs, hi⟩ := q
    exact ⟨k', h1, h2, hi, r'.sub hs⟩
  | _ => exact ⟨h', q, r'⟩
/-- What is owned grows: a block is new. -/
theorem subS {h0 h : Hp} {g : Nat} {ob : Obj} (hs : ∀ y o, h0.own y = some o → h.own y = some o) (hn : h0.own g = none) : ∀ y o, h0.own y = some o → (h.set g ob).own y = some o := by
  intro y o e
  rw [Hp.own_set]
  split
  · rename_i q; subst q; rw [hn] at e; cases e
  · exact hs y o e
theorem sub_refl {h0 : Hp} : ∀ y o, h0.own y = some o → h0.own y = some o := fun _ _ e => e
theorem DDraw.lastS {P : Program} {F : Fr} {id : Nat} {x : Oper} {r : List Oper} {K : Act → Hp → Prop} {a : Act} {h : Hp} (over : List Nat) (S : Hp) (hm : P.follows .mixedOrders = true) (hok : okDrawL over (initL (x :: r)) (lastL x (x :: r)) = true)
    (hS : ∀ g o, S.own g = some o → h.own g = some o) (ht : TI P F S (x :: r).toArray (LastK P F (x :: r).toArray (lastL x (x :: r)) K) over 0 (initL (x :: r)) a h) : DDraw P F id (x :: r).toArray K a h := by
  have e := initL_last x (x :: r) (by simp)
  have := DDraw.ofL (P := P) (F := F) (id := id) (K := K) (a := a) (h := h) (l := initL (x :: r)) (o := lastL x (x :: r)) over S hm hok hS
  rw [← e] at this
  exact this (by unfold items; rw [TI_eq]; exact ht)
end Go.SL
