/-
  A walk over a part of memory, twenty-first part: calls of yield.
  Conditions: none. Plain theorems and definitions.
-/
import Derived.Test.YtdhdfdaclbfkiaaS20
set_option linter.unusedVariables false
set_option linter.unusedSimpArgs false
namespace Go.SL
open Go.RowKit
section
variable {P : Program} {F : Fr} {S h : Hp} {a : Act}
theorem DRound.inv {l f : Nat} {tmps : Array Value} {assign body : Code} {R : Value → Hp → Prop}
    (hd : DRound P F l f tmps assign body h (fun v h' => (∀ g o, S.own g = some o → h'.own g = some o) ∧ R v h')) : DRound P F l f tmps assign body h (fun v h' => Inv F S h' ∧ R v h') :=
  fun w r => (hd w r).mono fun e w' ⟨v, h', he, ⟨hk, hr⟩, rr⟩ => ⟨v, h', he, ⟨⟨hk, ⟨w'.heap.size, fun g hg => by
    cases e : h'.own g with
    | none => rfl
    | some o => have := own_lt rr e; omega⟩, rr.mine⟩, hr⟩, rr⟩
theorem exec_yield {dst : Option Tmp} {t : Operand} {xs : Array Operand} {ts : Array TypeId} {ty : TypeId} {pos : String} {af : Array Edge} {g : Option (Nat × Bool)} {L : Nat} (hv : a.eval t = .func (.yield L) #[] #[]) :
    execOp a.eval ⟨dst, .call ⟨.value t, xs, ts⟩, ty, pos, af, g⟩ = Instr.yield L (xs.map a.eval) := by
  simp only [execOp, resolve, hv]
  simp [go_sem, invoke]
/-- A call of yield in a region that draws. -/
theorem stp_yield {dst : Option Tmp} {t : Operand} {xs : Array Operand} {ts : Array TypeId} {ty : TypeId} {pos : String} {af : Array Edge} {g : Option (Nat × Bool)} {L : Nat} {r : Loop} {ys : Array Value} {R : Act → Hp → Prop} (hv : a.eval t = .func (.yield L) #[] #[]) (hy : xs.map a.eval = ys)
    (ho : h.own L = some (.loop r)) (hs : ys.size = r.params.size)
    (H : DRound P F L r.fn ((r.params.zip ys).foldl (fun tmps (t, a) => tmps.setIfInBounds t a) r.tmps) r.assign r.body h (fun v h' => (∀ g o, S.own g = some o → h'.own g = some o) ∧ R (a.put dst v) h')) :
    stp P F S true ⟨dst, .call ⟨.value t, xs, ts⟩, ty, pos, af, g⟩ a h R := by
  have ek : overKind (.call ⟨.value t, xs, ts⟩) = .gen := by
    cases t <;> first | rfl | (exfalso; revert hv; simp [Act.eval])
  show StK P F S (overKind (.call ⟨.value t, xs, ts⟩)) _ h _
  rw [ek]
  rw [exec_yield hv, hy]
  intro hi
  unfold vop
  refine dwp_yield ?_
  rw [ho]
  exact ⟨hs, DRound.inv H⟩
/-- The same in a region in the order of the text. -/
theorem dop_yield {dst : Option Tmp} {t : Operand} {xs : Array Operand} {ts : Array TypeId} {ty : TypeId} {pos : String} {af : Array Edge} {g : Option (Nat × Bool)} {L : Nat} {r : Loop} {ys : Array Value} {R : Act → Hp → Prop} (hv : a.eval t = .func (.yield L) #[] #[]) (hy : xs.map a.eval = ys)
    (ho : h.own L = some (.loop r)) (hs : ys.size = r.params.size)
    (H : DRound P F L r.fn ((r.params.zip ys).foldl (fun tmps (t, a) => tmps.setIfInBounds t a) r.tmps) r.assign r.body h (fun v h' => R (a.put dst v) h')) :
    dop P F ⟨dst, .call ⟨.value t, xs, ts⟩, ty, pos, af, g⟩ a h R := by
  unfold dop
  rw [exec_yield hv, hy]
  refine dwp_yield ?_
  rw [ho]
  exact ⟨hs, H⟩
theorem recL_state {fn : FuncId} {t : Array Value} {ps : Array Tmp} {x y : Code} {D : Nat} : (recL fn t ps x y D).state = .ready := rfl
theorem recL_pending {fn : FuncId} {t : Array Value} {ps : Array Tmp} {x y : Code} {D : Nat} : (recL fn t ps x y D).pending = none := rfl
theorem fold2 {t : Array Value} {p q : Nat} {u v : Value} : Array.foldl (fun (tmps : Array Value) (x : Nat × Value) => tmps.setIfInBounds x.1 x.2) t (#[p, q].zip #[u, v]) = (t.setIfInBounds p u).setIfInBounds q v := by
  simp
theorem fold1 {t : Array Value} {p : Nat} {u : Value} : Array.foldl (fun (tmps : Array Value) (x : Nat × Value) => tmps.setIfInBounds x.1 x.2) t (#[p].zip #[u]) = t.setIfInBounds p u := by
  simp
/-- Of what is owned a part alone is looked at. -/
theorem DCall.weak {f : FuncId} {args : Array Value} {K : Value → Hp → Prop} (hd : DCall P F f args h (fun v h' => ∃ h2, (∀ g o, h2.own g = some o → h'.own g = some o) ∧ K v h2)) : DCall P F f args h K := by
  refine ⟨fun w r => ?_⟩
  refine (hd.out w r).mono fun e w' ⟨v, h', he, ⟨h2, hk, hv⟩, r'⟩ => ⟨v, h2, he, hv, ?_⟩
  exact ⟨fun g o e => r'.own g o (hk g o e), r'.size, r'.os, r'.tape, r'.output, r'.frame, fun g o e => r'.mine g o (hk g o e)⟩
end
end Go.SL
