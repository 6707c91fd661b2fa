/-
  A walk over a part of memory, eighteenth part: code by the places of its parts, so that what follows is not carried along.
  Conditions: none. Plain theorems and definitions.
-/
import Derived.Test.YtdhdfdaclbfkiaaS17
set_option linter.unusedVariables false
set_option linter.unusedSimpArgs false
namespace Go.SL
open Go.RowKit
def part (i : Nat) : Code → Code
  | .seq x y => if i = 0 then x else y
  | .cond _ x y => if i = 0 then x else y
  | .block _ x => x
  | .loop x => x
  | .scope x => x
  | .rangeFunc _ _ x y => if i = 0 then x else y
  | c => c
/-- The part of a function's code at a place: the steps to it, the last one first. -/
def cat (f : Func) : List Nat → Code
  | [] => f.body.getD .skip
  | i :: p => part i (cat f p)
def isSeq : Code → Bool
  | .seq _ _ => true
  | _ => false
section
variable {P : Program} {F : Fr} {fn : Func} {p : List Nat} {Q : Exit → Act → Hp → Prop} {a : Act} {h : Hp}
theorem at_seq (e : isSeq (cat fn p) = true) (hd : dcode P F (cat fn (0 :: p)) (Then (Kont P F (cat fn (1 :: p)) Q) Q) a h) : dcode P F (cat fn p) Q a h := by
  have e0 : cat fn (0 :: p) = part 0 (cat fn p) := rfl
  have e1 : cat fn (1 :: p) = part 1 (cat fn p) := rfl
  rw [e0, e1] at hd
  generalize cat fn p = c at *
  cases c <;> first | exact hd | exact absurd e Bool.false_ne_true
theorem at_plain {id : Nat} {l : List Oper} (e : cat fn p = .region id l.toArray false) (hd : dops P F l.toArray (Q .normal) l a h) : dcode P F (cat fn p) Q a h := by rw [e]; exact hd
theorem at_draw {id : Nat} {l : List Oper} (e : cat fn p = .region id l.toArray true) (hd : DDraw P F id l.toArray (Q .normal) a h) : dcode P F (cat fn p) Q a h := by rw [e]; exact hd
theorem at_cond {c : Operand} {x y : Code} (e : cat fn p = .cond c x y) (hd : CondK P F (cat fn (0 :: p)) (cat fn (1 :: p)) Q a h (a.eval c)) : dcode P F (cat fn p) Q a h := by
  have e0 : cat fn (0 :: p) = x := by show part 0 (cat fn p) = x; rw [e]; rfl
  have e1 : cat fn (1 :: p) = y := by show part 1 (cat fn p) = y; rw [e]; rfl
  rw [e0, e1] at hd
  rw [e, dcode_cond]; exact hd
theorem at_block {id : Nat} {x : Code} (e : cat fn p = .block id x) (hd : dcode P F (cat fn (0 :: p)) (InBlock id Q) a h) : dcode P F (cat fn p) Q a h := by
  have e0 : cat fn (0 :: p) = x := by show part 0 (cat fn p) = x; rw [e]; rfl
  rw [e0] at hd
  rw [e]; exact hd
theorem at_loop {x : Code} (e : cat fn p = .loop x) (hd : DLoop P F (cat fn (0 :: p)) Q a h) : dcode P F (cat fn p) Q a h := by
  have e0 : cat fn (0 :: p) = x := by show part 0 (cat fn p) = x; rw [e]; rfl
  rw [e0] at hd
  rw [e]; exact hd
theorem at_skip (e : cat fn p = .skip) (hd : Q .normal a h) : dcode P F (cat fn p) Q a h := by rw [e]; exact hd
theorem at_label {l : Nat} (e : cat fn p = .label l) (hd : Q .normal a h) : dcode P F (cat fn p) Q a h := by rw [e]; exact hd
theorem at_exit {id : Nat} (e : cat fn p = .exit id) (hd : Q (.exit id) a h) : dcode P F (cat fn p) Q a h := by rw [e]; exact hd
theorem at_ret (e : cat fn p = .ret) (hd : Q .ret a h) : dcode P F (cat fn p) Q a h := by rw [e]; exact hd
def toB : Option Value → Option Bool
  | some (.bool b) => some b
  | _ => none
theorem yielded_eq {ops : Array Oper} {tmps : Array Value} {j : Nat} : yielded ops tmps j = toB (((ops[j]?).bind (·.dst)).bind (tmps[·]?)) := by
  unfold yielded toB
  split <;> simp_all
def yl (ops : Array Oper) (tmps : Array Value) (j : Nat) : Option Bool := toB (((ops[j]?).bind (·.dst)).bind (tmps[·]?))
theorem yl_def {ops : Array Oper} {tmps : Array Value} {j : Nat} : yl ops tmps j = toB (((ops[j]?).bind (·.dst)).bind (tmps[·]?)) := rfl
theorem GuardK_yl {ops : Array Oper} {K : Act → Hp → Prop} {o : Oper} {l : List Oper} {j : Nat} {b : Bool} : GuardK P F ops K o l a h (some (j, b)) = GuardB P F ops K o l a h b (yl ops a.tmps j) := by rw [GuardK_some, yielded_eq]; rfl
theorem GuardL_yl {S : Hp} {ops : Array Oper} {ov : Bool} {R : Act → Hp → Prop} {o : Oper} {j : Nat} {b : Bool} : GuardL P F S ops ov R o a h (some (j, b)) = GuardD P F S ov R o a h b (yl ops a.tmps j) := by rw [GuardL_some, yielded_eq]; rfl
theorem toB_bool {b : Bool} : toB (some (.bool b)) = some b := rfl
theorem toB_undef : toB (some undef) = none := rfl
theorem Cr.ofP {f : FuncId} {v : Value} {fn : Func} {rs : List ResultVar} {ro : Addr → Option Value} {l : List Value} {n : Nat} (hf : P.funcs[f]? = some fn) (hn : fn.ntmps = n) (hb : fn.body.isSome = true) (hr : fn.results.toList = rs) (h16 : l.length ≤ 16) (hl : l.length ≤ n)
    (hd : ∀ F : Fr, F.ro = ro → dcode P F (cat fn []) (Post P F rs (EqV v)) ⟨fl n (fun _ => undef) [l.map some], []⟩ Hp.none_) : Cr P f l.toArray ro v := by
  obtain ⟨c, hc⟩ := Option.isSome_iff_exists.1 hb
  have e : cat fn [] = c := by show fn.body.getD .skip = c; rw [hc]; rfl
  rw [e] at hd
  exact Cr.ofF hf hn hc hr h16 hl hd
theorem DCall.inlP {f : FuncId} {fn : Func} {K : Value → Hp → Prop} {rs : List ResultVar} {l : List Value} {n : Nat} (hf : P.funcs[f]? = some fn) (hn : fn.ntmps = n) (hb : fn.body.isSome = true) (hr : fn.results.toList = rs) (h16 : l.length ≤ 16) (hl : l.length ≤ n)
    (hd : dcode P F (cat fn []) (Post P F rs K) ⟨fl n (fun _ => undef) [l.map some], []⟩ h) : DCall P F f l.toArray h K := by
  obtain ⟨c, hc⟩ := Option.isSome_iff_exists.1 hb
  have e : cat fn [] = c := by show fn.body.getD .skip = c; rw [hc]; rfl
  rw [e] at hd
  exact DCall.inlF hf hn hc hr h16 hl hd
end
end Go.SL
