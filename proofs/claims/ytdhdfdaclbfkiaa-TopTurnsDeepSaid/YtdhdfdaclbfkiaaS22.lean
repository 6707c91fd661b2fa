/-
  A contract of a function that leaves old memory alone, from one that tells what it owns. Conditions: none.
-/
import Derived.Test.YtdhdfdaclbfkiaaS21
set_option linter.unusedVariables false
namespace Go.SL
section
variable {P : Program} {f : FuncId} {args : Array Value} {v : Value} {ro : Addr → Option Value}
theorem Cr.ofD (hd : ∀ F : Fr, F.ro = ro → F.top = true → DCall P F f args Hp.none_ (fun u _ => u = v)) : Cr P f args ro v := by
  refine ⟨fun w hw => ?_⟩
  let F : Fr := ⟨w, fun _ => False, ro, fun a u e => ⟨hw a u e, fun x => x⟩, true⟩
  refine ((hd F rfl rfl).out w (HRel.start F Hp.none_ (fun _ => rfl))).mono fun e w' hh => ?_
  obtain ⟨v', h', he, hv, r'⟩ := hh
  exact ⟨by rw [he, hv], r'.below (fun _ x => x)⟩
end
section
variable {P : Program} {F : Fr} {S h : Hp} {a : Act} {f : FuncId} {args : Array Value}
/-- A call, in a region that draws, that can stand in any greater heap. -/
theorem stp_rob {dst : Option Tmp} {f0 : FuncId} {xs : Array Operand} {ts : Array TypeId} {ty : TypeId} {pos : String} {af : Array Edge} {g : Option (Nat × Bool)} {K : Act → Hp → Prop}
    (e : rval P F (execOp a.eval ⟨dst, .call ⟨.value (.func f0), xs, ts⟩, ty, pos, af, g⟩) S = some (.enter f args)) (H : Inv F S h → RobK P F S h f args (PutK a dst K)) :
    stp P F S true ⟨dst, .call ⟨.value (.func f0), xs, ts⟩, ty, pos, af, g⟩ a h K := fun hi => ⟨f, args, e, H hi⟩
theorem kept_none {h h1 : Hp} (hs : ∀ g o, h.own g = some o → h1.own g = some o) {g : Nat} (hn : h1.own g = none) : h.own g = none := by
  cases e : h.own g with
  | none => rfl
  | some o => rw [hs g o e] at hn; cases hn
/-- A call that leaves all as it is. -/
theorem RobK.zero {K : Value → Hp → Prop} {v : Value} (c : ∀ h1 : Hp, (∀ g o, h.own g = some o → h1.own g = some o) → Cr P f args (h1.cell? F) v) (hi : Inv F S h) (H : K v h) : RobK P F S h f args K :=
  fun h1 hs _ => Cr.call (c h1 hs) ⟨h, hi, H, hs, fun _ _ e1 e2 => ⟨e1, e2⟩⟩
/-- A call that makes one block. -/
theorem RobK.one {X : Type} {val : Nat → X → Value} {ob : Nat → X → Obj} {K : Value → Hp → Prop}
    (c : ∀ h1 (K' : Value → Hp → Prop), (∀ g o, h.own g = some o → h1.own g = some o) → (∀ g x, F.w0.heap.size ≤ g → h1.own g = none → K' (val g x) (h1.set g (ob g x))) → DCall P F f args h1 K')
    (hi : Inv F S h) (H : ∀ g x, F.w0.heap.size ≤ g → h.own g = none → K (val g x) (h.set g (ob g x))) : RobK P F S h f args K := by
  intro h1 hs hi1
  refine c h1 _ hs fun g x hg hn => ?_
  have hn' := kept_none hs hn
  refine ⟨h.set g (ob g x), hi.set (hi.none hn') (.inl hg), H g x hg hn', fun b o e => ?_, fun b o e1 e2 => ?_⟩
  · rw [Hp.own_set] at e ⊢
    split at e
    · rename_i hb; rw [if_pos hb]; exact e
    · rename_i hb; rw [if_neg hb]; exact hs b o e
  · have hb : b ≠ g := by rintro rfl; rw [hn] at e1; cases e1
    exact ⟨by rw [Hp.own_set, if_neg hb]; exact e1, by rw [Hp.own_set, if_neg hb]; exact e2⟩
/-- A call that makes two blocks. -/
theorem RobK.two {X : Type} {val : Nat → Nat → X → Value} {oa ob : Nat → Nat → X → Obj} {K : Value → Hp → Prop}
    (c : ∀ h1 (K' : Value → Hp → Prop), (∀ g o, h.own g = some o → h1.own g = some o) → (∀ p q x, F.w0.heap.size ≤ p → F.w0.heap.size ≤ q → h1.own p = none → h1.own q = none → p ≠ q → K' (val p q x) ((h1.set p (oa p q x)).set q (ob p q x))) → DCall P F f args h1 K')
    (hi : Inv F S h) (H : ∀ p q x, F.w0.heap.size ≤ p → F.w0.heap.size ≤ q → h.own p = none → h.own q = none → p ≠ q → K (val p q x) ((h.set p (oa p q x)).set q (ob p q x))) : RobK P F S h f args K := by
  intro h1 hs hi1
  refine c h1 _ hs fun p q x hp hq np nq hpq => ?_
  have np' := kept_none hs np
  have nq' := kept_none hs nq
  refine ⟨(h.set p (oa p q x)).set q (ob p q x), (hi.set (hi.none np') (.inl hp)).set (hi.none nq') (.inl hq), H p q x hp hq np' nq' hpq, fun b o e => ?_, fun b o e1 e2 => ?_⟩
  · rw [Hp.own_set, Hp.own_set] at e ⊢
    split at e
    · rename_i hb; rw [if_pos hb]; exact e
    · rename_i hb
      rw [if_neg hb]
      split at e
      · rename_i hb2; rw [if_pos hb2]; exact e
      · rename_i hb2; rw [if_neg hb2]; exact hs b o e
  · have h1' : b ≠ p := by rintro rfl; rw [np] at e1; cases e1
    have h2' : b ≠ q := by rintro rfl; rw [nq] at e1; cases e1
    exact ⟨by rw [Hp.own_set, if_neg h2', Hp.own_set, if_neg h1']; exact e1, by rw [Hp.own_set, if_neg h2', Hp.own_set, if_neg h1']; exact e2⟩
end
end Go.SL
