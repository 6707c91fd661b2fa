/-
  A range over a function that has arguments already. Conditions: none.
-/
import Derived.Test.YtdhdfdaclbfkiaaS22
set_option linter.unusedVariables false
set_option linter.unusedSimpArgs false
namespace Go.SL
open Go.RowKit
section
variable {P : Program} {F : Fr} {S h : Hp} {a : Act}
/-- The same for a function with arguments that are bound already. -/
theorem DWp.rangeFuncB {g : Operand} {ps : Array Tmp} {assign body : Code} {Q : Exit → Act → Hp → Prop} {a : Act} {gf : Nat} {ba lb : Array Value} (hT : F.top = true) (hg : a.eval g = .func (.func gf) ba lb) (he : entB P gf = true)
    (H : ∀ D, F.w0.heap.size ≤ D → h.own D = none → ∀ L, F.w0.heap.size ≤ L → (h.set D (.deferred (some []))).own L = none → ∀ fn,
      DCall P F gf (ba ++ #[.func (.yield L) #[] #[]] ++ lb) ((h.set D (.deferred (some []))).set L (.loop (recL fn a.tmps ps assign body D)))
        (LeftK Q { a with defers := ⟨.collected D, #[]⟩ :: a.defers } L)) : DWp P F (.rangeFunc g ps assign body) Q a h := by
  intro ro hro w r
  obtain rfl := hro hT
  refine wpIn_rangeFunc fun fn _ => ?_
  have hfr := r.fresh
  have r1 := r.new (.deferred (some []))
  have hfr2 := r1.fresh
  have r2 := r1.new (.loop (recL fn a.tmps ps assign body w.heap.size))
  have hsz : (w.heap.push (Obj.deferred (some []))).size = w.heap.size + 1 := by simp
  have hc := H w.heap.size r.size hfr _ r1.size hfr2 fn
  have eg : ∀ w', (callFunc gf (ba ++ #[Value.func (.yield (w.heap.size + 1)) #[] #[]] ++ lb)).run P w' = .ok (.enter gf (ba ++ #[Value.func (.yield (w.heap.size + 1)) #[] #[]] ++ lb)) w' := by
    intro w'
    unfold entB at he
    cases ho : P.funcs[gf]? with
    | none => rw [ho] at he; simp at he
    | some f =>
      rw [ho] at he
      simp only [Option.map_some, Option.getD_some, Bool.and_eq_true, Bool.not_eq_true'] at he
      simp only [callFunc, program, bind, Sem.bind, Sem.run, ho, he.1, he.2, Bool.false_eq_true, if_false]
      rfl
  obtain ⟨W1, hW1⟩ : ∃ W1, (w.alloc (.deferred (some []))).alloc (.loop (recL fn a.tmps ps assign body w.heap.size)) = W1 := ⟨_, rfl⟩
  refine ⟨w.heap.size + 1, [⟨.collected w.heap.size, #[]⟩], W1, ⟨.fn (.func gf) lb, ba ++ #[.func (.yield (w.heap.size + 1)) #[] #[]]⟩, W1, gf, ba ++ #[.func (.yield (w.heap.size + 1)) #[] #[]] ++ lb, W1, ?_, ?_, fun f' _ => trivial, ?_, fun e => by simp [wideR, Fence.wide] at e, ?_⟩
  · rw [← hW1]; exact run_enterLoop_outer _ _ _ _ _
  · simp only [resolve, hg]
    simp [go_sem]
  · simpa [invoke] using eg W1
  · rw [hsz] at hc
    refine callsIn_wideR (ro := none) ((hc.out W1 ?_).mono ?_)
    · rw [hsz] at r2
      rw [← hW1]
      exact r2
    · rintro e w3 ⟨v, h3, rfl, k3, r3⟩
      replace k3 : LeftR Q { a with defers := ⟨.collected w.heap.size, #[]⟩ :: a.defers } (w.heap.size + 1) h3 (h3.own (w.heap.size + 1)) := k3
      cases e : h3.own (w.heap.size + 1) with
      | none => rw [e] at k3; exact k3.elim
      | some o =>
        rw [e] at k3
        cases o <;> try exact k3.elim
        rename_i u
        obtain ⟨hb, ho⟩ := k3
        have r4 := r3.unown e (.loop { u with state := .exhausted })
        refine ⟨_, _, run_endLoop (r3.own _ _ e) hb, ?_⟩
        cases hp : u.pending with
        | none => rw [hp] at ho r4; exact ⟨_, ho, r4⟩
        | some c =>
          rw [hp] at ho r4
          cases c <;> try exact ho.elim
          case ret => exact wpIn_ret ⟨_, ho, r4⟩
          case exit id => exact wpIn_exit ⟨_, ho, r4⟩
end
end Go.SL
