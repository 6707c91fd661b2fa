/-
  A walk over a part of memory, nineteenth part: a range over a function.
  Conditions: none. Plain theorems and definitions.
-/
import Derived.Test.YtdhdfdaclbfkiaaS18
set_option linter.unusedVariables false
set_option linter.unusedSimpArgs false
namespace Go.SL
open Go.RowKit
section
variable {P : Program} {F : Fr} {h : Hp}
theorem Fr.inr_w0 : F.inr.w0 = F.w0 := rfl
theorem Fr.inr_ro : F.inr.ro = F.ro := rfl
theorem Fr.inr_M : F.inr.M = F.M := rfl
theorem cell_inr {a : Addr} : h.cell? F.inr a = h.cell? F a := rfl
def LoopO (K : Loop → Hp → Prop) (h : Hp) : Option Obj → Prop
  | some (.loop r) => K r h
  | _ => False
theorem LoopO_some {K : Loop → Hp → Prop} {r : Loop} : LoopO K h (some (.loop r)) = K r h := rfl
theorem dwp_getLoop {l : Nat} {r : Loop} {K : Loop → Hp → Prop} (e : h.own l = some (.loop r)) : dwp P F (Instr.getLoop l) h K = K r h := by
  unfold Instr.getLoop
  rw [dwp_bind', dwp_getObj', e]
  rfl
/-- A call of yield: a round is asked for. -/
def YieldK (P : Program) (F : Fr) (l : Nat) (args : Array Value) (K : Next → Hp → Prop) (h : Hp) : Option Obj → Prop
  | some (.loop r) => args.size = r.params.size ∧ K (.round l r.fn ((r.params.zip args).foldl (fun tmps (t, a) => tmps.setIfInBounds t a) r.tmps) r.assign r.body) h
  | _ => False
theorem YieldK_some {l : Nat} {args : Array Value} {K : Next → Hp → Prop} {r : Loop} : YieldK P F l args K h (some (.loop r)) =
    (args.size = r.params.size ∧ K (.round l r.fn ((r.params.zip args).foldl (fun tmps (t, a) => tmps.setIfInBounds t a) r.tmps) r.assign r.body) h) := rfl
theorem dwp_yield {l : Nat} {args : Array Value} {K : Next → Hp → Prop} (H : YieldK P F l args K h (h.own l)) : dwp P F (Instr.yield l args) h K := by
  cases e : h.own l with
  | none => rw [e] at H; exact H.elim
  | some o =>
    rw [e] at H
    cases o <;> try exact H.elim
    rename_i r
    obtain ⟨h1, h2⟩ := H
    unfold Instr.yield
    rw [dwp_bind', dwp_getLoop e, BindK_app, if_neg (by simpa using h1)]
    exact h2
/-- The end of a round. -/
def EndR (L : Nat) (j : Option Code) (K : Value → Hp → Prop) (h : Hp) : Option Obj → Prop
  | some (.loop r) => K (.bool j.isNone) (h.set L (.loop { r with state := if j.isNone then .ready else .done, pending := j }))
  | _ => False
def RoundQ (L : Nat) (K : Value → Hp → Prop) : Exit → Act → Hp → Prop
  | .normal, _, h => EndR L none K h (h.own L)
  | .ret, _, h => EndR L (some .ret) K h (h.own L)
  | .exit id, _, h => EndR L (some (.exit id)) K h (h.own L)
  | _, _, _ => False
theorem RoundQ_normal {L : Nat} {K : Value → Hp → Prop} {a : Act} : RoundQ L K .normal a h = EndR L none K h (h.own L) := rfl
theorem RoundQ_ret {L : Nat} {K : Value → Hp → Prop} {a : Act} : RoundQ L K .ret a h = EndR L (some .ret) K h (h.own L) := rfl
theorem RoundQ_exit {L id : Nat} {K : Value → Hp → Prop} {a : Act} : RoundQ L K (.exit id) a h = EndR L (some (.exit id)) K h (h.own L) := rfl
theorem EndR_none {L : Nat} {K : Value → Hp → Prop} {r : Loop} : EndR L none K h (some (.loop r)) = K (.bool true) (h.set L (.loop { r with state := .ready, pending := none })) := rfl
theorem EndR_some {L : Nat} {c : Code} {K : Value → Hp → Prop} {r : Loop} : EndR L (some c) K h (some (.loop r)) = K (.bool false) (h.set L (.loop { r with state := .done, pending := some c })) := rfl
/-- Behind the assignment: the round begins. -/
def BegR (P : Program) (F : Fr) (L : Nat) (body : Code) (K : Value → Hp → Prop) (a : Act) (h : Hp) : Option Obj → Prop
  | some (.loop r) => r.state = .ready ∧ dcode P F body (RoundQ L K) a (h.set L (.loop { r with state := .busy }))
  | _ => False
def BegK (P : Program) (F : Fr) (L : Nat) (body : Code) (K : Value → Hp → Prop) (a : Act) (h : Hp) : Prop := BegR P F L body K a h (h.own L)
theorem BegK_app {L : Nat} {body : Code} {K : Value → Hp → Prop} {a : Act} : BegK P F L body K a h = BegR P F L body K a h (h.own L) := rfl
theorem BegR_some {L : Nat} {body : Code} {K : Value → Hp → Prop} {a : Act} {r : Loop} : BegR P F L body K a h (some (.loop r)) = (r.state = .ready ∧ dcode P F body (RoundQ L K) a (h.set L (.loop { r with state := .busy }))) := rfl
def NoQ : Exit → Act → Hp → Prop := fun _ _ _ => False
theorem endRound_ok {L : Nat} {j : Option Code} {K : Value → Hp → Prop} {w : World} (r : HRel F h w) (H : EndR L j K h (h.own L)) :
    ∃ v w', (Instr.endRound L j).run P w = .ok v w' ∧ ∃ v' h', Ending.returned v = .returned v' ∧ K v' h' ∧ HRel F h' w' := by
  cases e : h.own L with
  | none => rw [e] at H; exact H.elim
  | some o =>
    rw [e] at H
    cases o <;> try exact H.elim
    rename_i q
    exact ⟨_, _, run_endRound j (r.own _ _ e), _, _, rfl, H, r.put e rfl⟩
theorem DRound.intro {L : Nat} {f : FuncId} {tmps : Array Value} {assign body : Code} {K : Value → Hp → Prop}
    (H : dcode P F.inr assign (Then (BegK P F.inr L body K) NoQ) ⟨tmps, []⟩ h) : DRound P F L f tmps assign body h K := by
  intro w r
  have h1 := dcode_sound _ _ _ _ H (some L) (fun e => by simp [Fr.inr] at e) w (HRel.inr.2 r)
  have h2 : assign.wpIn (Fence.wide.inRound L) 0 P (Exit.then (fun a1 w1 => ∃ w2, (Instr.beginRound L).run P w1 = .ok () w2 ∧ body.wpIn (Fence.wide.inRound L) 0 P (roundPost P L (fun e w' => ∃ v h', e = .returned v ∧ K v h' ∧ HRel F h' w')) a1 w2) (fun _ _ _ => False)) ⟨tmps, []⟩ w := by
    refine wpIn_mono h1 fun e a1 w1 hh => ?_
    obtain ⟨h', q, r'⟩ := hh
    cases e with
    | normal =>
      replace q : BegR P F.inr L body K a1 h' (h'.own L) := q
      cases e : h'.own L with
      | none => rw [e] at q; exact q.elim
      | some o =>
        rw [e] at q
        cases o <;> try exact q.elim
        rename_i u
        obtain ⟨hs, hb⟩ := q
        refine ⟨_, run_beginRound (r'.own _ _ e) hs, ?_⟩
        have r2 : HRel F.inr (h'.set L (.loop { u with state := .busy })) _ := r'.put e rfl
        refine wpIn_mono (dcode_sound _ _ _ _ hb (some L) (fun e => by simp [Fr.inr] at e) _ r2) fun e2 a2 w3 hh2 => ?_
        obtain ⟨h3, q3, r3⟩ := hh2
        have r4 := HRel.inr.1 r3
        cases e2 with
        | normal => exact endRound_ok r4 q3
        | ret => exact endRound_ok r4 q3
        | exit id => exact endRound_ok r4 q3
        | _ => exact q3.elim
    | _ => exact q.elim
  exact roundIn_of_wpIn trivial h2

/-- Behind the iterator. -/
def OutR (Q : Exit → Act → Hp → Prop) (a : Act) (L : Nat) (h : Hp) : Option Code → Prop
  | none => Q .normal a (h.drop L)
  | some .ret => Q .ret a (h.drop L)
  | some (.exit id) => Q (.exit id) a (h.drop L)
  | _ => False
theorem OutR_none {Q : Exit → Act → Hp → Prop} {a : Act} {L : Nat} : OutR Q a L h none = Q .normal a (h.drop L) := rfl
theorem OutR_ret {Q : Exit → Act → Hp → Prop} {a : Act} {L : Nat} : OutR Q a L h (some .ret) = Q .ret a (h.drop L) := rfl
theorem OutR_exit {Q : Exit → Act → Hp → Prop} {a : Act} {L id : Nat} : OutR Q a L h (some (.exit id)) = Q (.exit id) a (h.drop L) := rfl
def LeftR (Q : Exit → Act → Hp → Prop) (a : Act) (L : Nat) (h : Hp) : Option Obj → Prop
  | some (.loop r) => r.state ≠ .busy ∧ OutR Q a L h r.pending
  | _ => False
theorem LeftR_some {Q : Exit → Act → Hp → Prop} {a : Act} {L : Nat} {r : Loop} : LeftR Q a L h (some (.loop r)) = (r.state ≠ .busy ∧ OutR Q a L h r.pending) := rfl
def LeftK (Q : Exit → Act → Hp → Prop) (a : Act) (L : Nat) (_ : Value) (h : Hp) : Prop := LeftR Q a L h (h.own L)
theorem LeftK_app {Q : Exit → Act → Hp → Prop} {a : Act} {L : Nat} {v : Value} : LeftK Q a L v h = LeftR Q a L h (h.own L) := rfl
/-- The record of a loop. -/
def recL (fn : FuncId) (tmps : Array Value) (ps : Array Tmp) (assign body : Code) (D : Nat) : Loop := { state := .ready, pending := none, fn, tmps, params := ps, assign, body, defers := D }
theorem HRel.dropped {w : World} {g : Nat} (r : HRel F h w) : HRel F (h.drop g) w := by
  refine ⟨fun k o e => ?_, r.size, r.os, r.tape, r.output, r.frame, fun k o e => ?_⟩
  · simp only [Hp.drop] at e; split at e
    · cases e
    · exact r.own _ _ e
  · simp only [Hp.drop] at e; split at e
    · cases e
    · exact r.mine _ _ e
theorem HRel.unown {w : World} {g : Nat} {o : Obj} (r : HRel F h w) (e : h.own g = some o) (o' : Obj) : HRel F (h.drop g) (w.putObj g o') := by
  have r2 : HRel F (h.set g o') (w.putObj g o') := r.put e rfl
  have r3 := r2.dropped (g := g)
  have e2 : (h.set g o').drop g = h.drop g := by
    unfold Hp.set Hp.drop
    congr 1
    funext k
    by_cases hk : k = g <;> simp [hk]
  rw [e2] at r3
  exact r3
theorem DWp.rangeFunc {g : Operand} {ps : Array Tmp} {assign body : Code} {Q : Exit → Act → Hp → Prop} {a : Act} {gf : Nat} {lb : Array Value} (hT : F.top = true) (hg : a.eval g = .func (.func gf) #[] lb) (he : entB P gf = true)
    (H : ∀ D, F.w0.heap.size ≤ D → h.own D = none → ∀ L, F.w0.heap.size ≤ L → (h.set D (.deferred (some []))).own L = none → ∀ fn,
      DCall P F gf (#[.func (.yield L) #[] #[]] ++ lb) ((h.set D (.deferred (some []))).set L (.loop (recL fn a.tmps ps assign body D)))
        (LeftK Q { a with defers := ⟨.collected D, #[]⟩ :: a.defers } L)) : DWp P F (.rangeFunc g ps assign body) Q a h := by
  intro ro hro w r
  obtain rfl := hro hT
  refine wpIn_rangeFunc fun fn _ => ?_
  have hfr := r.fresh
  have r1 := r.new (.deferred (some []))
  have hfr2 := r1.fresh
  have r2 := r1.new (.loop (recL fn a.tmps ps assign body w.heap.size))
  have hsz : (w.heap.push (Obj.deferred (some []))).size = w.heap.size + 1 := by simp
  have hc := H w.heap.size r.size hfr _ r1.size hfr2 fn
  have eg : ∀ w', (callFunc gf (#[Value.func (.yield (w.heap.size + 1)) #[] #[]] ++ lb)).run P w' = .ok (.enter gf (#[Value.func (.yield (w.heap.size + 1)) #[] #[]] ++ lb)) w' := by
    intro w'
    unfold entB at he
    cases ho : P.funcs[gf]? with
    | none => rw [ho] at he; simp at he
    | some f =>
      rw [ho] at he
      simp only [Option.map_some, Option.getD_some, Bool.and_eq_true, Bool.not_eq_true'] at he
      simp only [callFunc, program, bind, Sem.bind, Sem.run, ho, he.1, he.2, Bool.false_eq_true, if_false]
      rfl
  obtain ⟨W1, hW1⟩ : ∃ W1, (w.alloc (.deferred (some []))).alloc (.loop (recL fn a.tmps ps assign body w.heap.size)) = W1 := ⟨_, rfl⟩
  refine ⟨w.heap.size + 1, [⟨.collected w.heap.size, #[]⟩], W1, ⟨.fn (.func gf) lb, #[.func (.yield (w.heap.size + 1)) #[] #[]]⟩, W1, gf, #[.func (.yield (w.heap.size + 1)) #[] #[]] ++ lb, W1, ?_, ?_, fun f' _ => trivial, ?_, fun e => by simp [wideR, Fence.wide] at e, ?_⟩
  · rw [← hW1]; exact run_enterLoop_outer _ _ _ _ _
  · simp only [resolve, hg]
    simp [go_sem]
  · simp [invoke, eg]
  · rw [hsz] at hc
    refine callsIn_wideR (ro := none) ((hc.out W1 ?_).mono ?_)
    · rw [hsz] at r2
      rw [← hW1]
      exact r2
    · rintro e w3 ⟨v, h3, rfl, k3, r3⟩
      replace k3 : LeftR Q { a with defers := ⟨.collected w.heap.size, #[]⟩ :: a.defers } (w.heap.size + 1) h3 (h3.own (w.heap.size + 1)) := k3
      cases e : h3.own (w.heap.size + 1) with
      | none => rw [e] at k3; exact k3.elim
      | some o =>
        rw [e] at k3
        cases o <;> try exact k3.elim
        rename_i u
        obtain ⟨hb, ho⟩ := k3
        have r4 := r3.unown e (.loop { u with state := .exhausted })
        refine ⟨_, _, run_endLoop (r3.own _ _ e) hb, ?_⟩
        cases hp : u.pending with
        | none => rw [hp] at ho r4; exact ⟨_, ho, r4⟩
        | some c =>
          rw [hp] at ho r4
          cases c <;> try exact ho.elim
          case ret => exact wpIn_ret ⟨_, ho, r4⟩
          case exit id => exact wpIn_exit ⟨_, ho, r4⟩
theorem at_rangeFunc {fn : Func} {p : List Nat} {g : Operand} {ps : Array Tmp} {x y : Code} {Q : Exit → Act → Hp → Prop} {a : Act} (e : cat fn p = .rangeFunc g ps x y) (hd : DWp P F (.rangeFunc g ps (cat fn (0 :: p)) (cat fn (1 :: p))) Q a h) : dcode P F (cat fn p) Q a h := by
  have e0 : cat fn (0 :: p) = x := by show part 0 (cat fn p) = x; rw [e]; rfl
  have e1 : cat fn (1 :: p) = y := by show part 1 (cat fn p) = y; rw [e]; rfl
  rw [e0, e1] at hd
  rw [e]; exact hd
end
end Go.SL
