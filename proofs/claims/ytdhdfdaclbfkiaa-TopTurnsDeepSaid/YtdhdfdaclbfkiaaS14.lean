/-
  A walk over a part of memory, fourteenth part: slices that are made, and appended to, in a region that draws.
  Conditions: none. Plain theorems.
-/
import Derived.Test.YtdhdfdaclbfkiaaS13
set_option linter.unusedVariables false
set_option linter.unusedSimpArgs false
namespace Go.SL
open Go.RowKit
section
variable {P : Program} {F : Fr} {S h : Hp} {a : Act} {K : Act → Hp → Prop} {dst : Option Tmp} {ty : TypeId} {pos : String} {af : Array Edge} {g : Option (Nat × Bool)} {t len elem s : Nat} {z : Value} {cs : List Value} {parts : Array (Nat × Operand)}
theorem rval_underlying : rval P F (underlying t) S = P.underlying t := by
  simp only [underlying, rval_bind', rval_program, RB_some]
  cases P.underlying t <;> rfl
theorem rval_sizeOf : rval P F (sizeOf t) S = (P.info? t).map (·.size) := by
  simp only [sizeOf, typeInfo, rval_bind', rval_program, RB_some]
  cases P.info? t <;> rfl
theorem rval_zeroValue : rval P F (zeroValue t) S = (P.info? t).bind (·.zero) := by
  simp only [zeroValue, typeInfo, rval_bind', rval_program, RB_some]
  cases P.info? t with
  | none => rfl
  | some i =>
    show rval P F (match i.zero with | some v => pure v | none => unsupported (.resourceLimit "a value of more than 2^22 cells")) S = _
    simp only [Option.bind_some]
    cases i.zero <;> rfl
theorem AL_buildSlice (hu : P.underlying t = some (.slice elem)) (hs : (P.info? elem).map (·.size) = some s) (hz : (P.info? elem).bind (·.zero) = some z) (hl : len * s ≤ 16777216)
    (hf : fillL (fun i => some (i * s, s)) (cyc z.cells.toList 0 (len * s)) (parts.toList.map fun p => (p.1, a.eval p.2)) = some cs) :
    AL P F (execOp a.eval ⟨dst, .buildSlice t len parts, ty, pos, af, g⟩) (.cells cs.toArray elem) (fun g => .slice (some ⟨g, 0, none⟩) len len) := by
  intro h K
  have hm : (parts.map fun x => (x.1, a.eval x.2)).toList = parts.toList.map fun p => (p.1, a.eval p.2) := by simp
  unfold vop
  simp only [execOp, Instr.buildSlice]
  rw [dwp_bind', dwp_bind', dwp_underlying, hu, OptK_some, BindK_app]
  dsimp only
  rw [dwp_bind', dwp_sizeOf, hs, OptK_some, BindK_app, if_neg (by omega)]
  have fin_ : ∀ (cs' : List Value) (K' : Value → Hp → Prop), fillL (fun i => some (i * s, s)) cs' (parts.toList.map fun p => (p.1, a.eval p.2)) = some cs →
      dwp P F (match Instr.fill (fun i => some (i * s, s)) cs'.toArray ((parts.map fun x => (x.1, a.eval x.2)).toList) with
        | some cells => (do let r ← newRow elem cells; pure (Value.slice (some r) len len) : Sem Value)
        | _ => stuck "buildSlice: a part of the wrong size") h K' = NewK F (.cells cs.toArray elem) (fun g h' => K' (.slice (some ⟨g, 0, none⟩) len len) h') h := by
    intro cs' K' hf
    rw [fill_eq, hm, hf]
    rfl
  by_cases h0 : len * s = 0
  · simp only [h0, if_true, pure_bind]
    have e0 : ∀ f : Nat → Value, (Array.range 0).map f = ([] : List Value).toArray := fun f => by simp
    rw [e0]
    exact Iff.of_eq (fin_ [] (BindK P F (fun v => pure (Next.value v)) (kfin P F K)) (by rw [h0] at hf; exact hf))
  · simp only [h0, if_false]
    rw [dwp_bind', dwp_zeroValue, hz, OptK_some, BindK_app]
    rw [pure_bind, range_cyc]
    exact Iff.of_eq (fin_ _ (BindK P F (fun v => pure (Next.value v)) (kfin P F K)) hf)
def BsC (F : Fr) (a : Act) (dst : Option Tmp) (K : Act → Hp → Prop) (len elem s : Nat) (parts : List (Nat × Value)) (h : Hp) : Option Value → Prop
  | some z => RowK F a dst K elem len len h (fillL (fun i => some (i * s, s)) (cyc z.cells.toList 0 (len * s)) parts)
  | none => False
theorem BsC_some {parts : List (Nat × Value)} : BsC F a dst K len elem s parts h (some z) = RowK F a dst K elem len len h (fillL (fun i => some (i * s, s)) (cyc z.cells.toList 0 (len * s)) parts) := rfl
def BsB (P : Program) (F : Fr) (S : Hp) (a : Act) (dst : Option Tmp) (K : Act → Hp → Prop) (len elem : Nat) (parts : List (Nat × Value)) (h : Hp) : Option Nat → Prop
  | some s => len * s ≤ 16777216 ∧ BsC F a dst K len elem s parts h (rval P F (zeroValue elem) S)
  | none => False
theorem BsB_some {parts : List (Nat × Value)} : BsB P F S a dst K len elem parts h (some s) = (len * s ≤ 16777216 ∧ BsC F a dst K len elem s parts h (rval P F (zeroValue elem) S)) := rfl
def BsA (P : Program) (F : Fr) (S : Hp) (a : Act) (dst : Option Tmp) (K : Act → Hp → Prop) (len : Nat) (parts : List (Nat × Value)) (h : Hp) : Option TypeDesc → Prop
  | some (.slice elem) => BsB P F S a dst K len elem parts h (rval P F (sizeOf elem) S)
  | _ => False
theorem BsA_some {parts : List (Nat × Value)} : BsA P F S a dst K len parts h (some (.slice elem)) = BsB P F S a dst K len elem parts h (rval P F (sizeOf elem) S) := rfl
theorem stp_buildSlice : BsA P F S a dst K len (parts.toList.map fun p => (p.1, a.eval p.2)) h (rval P F (underlying t) S) → stp P F S false ⟨dst, .buildSlice t len parts, ty, pos, af, g⟩ a h K := by
  intro H
  rw [rval_underlying] at H
  cases hu : P.underlying t with
  | none => rw [hu] at H; exact H.elim
  | some d =>
    rw [hu] at H
    cases d <;> try exact H.elim
    rename_i elem
    rw [BsA_some, rval_sizeOf] at H
    cases hs : (P.info? elem).map (·.size) with
    | none => rw [hs] at H; exact H.elim
    | some s =>
      rw [hs, BsB_some, rval_zeroValue] at H
      cases hz : (P.info? elem).bind (·.zero) with
      | none => rw [hz] at H; exact H.2.elim
      | some z =>
        rw [hz, BsC_some] at H
        cases hf : fillL (fun i => some (i * s, s)) (cyc z.cells.toList 0 (len * s)) (parts.toList.map fun p => (p.1, a.eval p.2)) with
        | none => rw [hf] at H; exact H.2.elim
        | some cs =>
          rw [hf, RowK_some] at H
          exact ⟨_, _, AL_buildSlice hu hs hz H.1 hf, H.2⟩
theorem AppD.own {e b off m c size bytes n : Nat} {v : Value} {xs ys : List Value} (ht : P.underlying t = some (.slice e)) (hinf : okInfo P e size bytes = true) (hb0 : bytes ≠ 0) (hm0 : 0 < m)
    (hv : Own F h e size v n xs) (hr : readV (h.cell? F) b off (m * size) = some ys) (hn : ∀ y ∈ ys, notAgg y = true) (hlim : (n + m) * bytes ≤ 140737488355328)
    (H : ∀ v' g ob, (blk v = some g ∨ (h.own g = none ∧ F.w0.heap.size ≤ g)) → blk v' = some g → Own F (h.set g ob) e size v' (n + m) (xs ++ ys) → K (a.put dst v') (h.set g ob)) :
    AppD P F a dst K #[t, t] ty v (.slice (some ⟨b, off, none⟩) m c) h := dwp_append ht hinf hb0 hm0 hv hr hn hlim H
theorem AppD.draw {e b off m c size bytes n : Nat} {v : Value} {xs ys : List Value} (ht : P.underlying t = some (.slice e)) (hinf : okInfo P e size bytes = true) (hb0 : bytes ≠ 0) (hm0 : 0 < m)
    (hv : Own F h e size v n xs) (hr : readV (h.cell? F) b off (m * size) = some ys) (hn : ∀ y ∈ ys, notAgg y = true) (hlim : (n + m) * bytes ≤ 140737488355328) (hS : ∀ b, blk v = some b → S.own b = none)
    (H : ∀ v' g ob, (blk v = some g ∨ (h.own g = none ∧ F.w0.heap.size ≤ g)) → blk v' = some g → Own F (h.set g ob) e size v' (n + m) (xs ++ ys) → K (a.put dst v') (h.set g ob)) :
    Inv F S h → AppD P F a dst (InvK F S K) #[t, t] ty v (.slice (some ⟨b, off, none⟩) m c) h := by
  intro hi
  refine dwp_append ht hinf hb0 hm0 hv hr hn hlim fun v' g ob h1 h2 h3 => ⟨?_, H v' g ob h1 h2 h3⟩
  rcases h1 with h1 | ⟨h1, h4⟩
  · obtain ⟨o, ho⟩ := hv.owned g h1
    exact hi.set (hS g h1) (hi.mine g o ho)
  · exact hi.set (hi.none h1) (.inl h4)
theorem i64_wrap_nat {n : Nat} (hn : n < 9223372036854775808) : IntKind.i64.wrap (n : Int) = n := by
  refine IntWalk.i64_in _ ?_
  omega
/-- A slice is made, of so many zero values. -/
theorem AL_makeSlice {i : TypeInfo} {n : Nat} {x y : Operand} (hx : a.eval x = .int .i64 n) (hy : a.eval y = .int .i64 n) (hu : P.underlying t = some (.slice elem)) (hi : P.info? elem = some i) (hz : i.zero = some z) (hb : i.bytes * n ≤ 281474976710656) (hn : n < 9223372036854775808) :
    AL P F (execOp a.eval ⟨dst, .makeSlice t x y, ty, pos, af, g⟩) (.cells (cyc z.cells.toList 0 (n * i.size)).toArray elem) (fun g => .slice (some ⟨g, 0, none⟩) n n) := by
  intro h K
  have hw : IntKind.i64.wrap (n : Int) = n := i64_wrap_nat hn
  have hti : ∀ {K : TypeInfo → Hp → Prop}, dwp P F (typeInfo elem) h K = K i h := by
    intro K; simp only [typeInfo, dwp_bind', dwp_program, BindK_app, hi]; rfl
  have hze : ∀ {K : Value → Hp → Prop}, dwp P F (zeroValue elem) h K = K z h := by
    intro K; rw [dwp_zeroValue, hi]; simp [OptK, hz]
  have hsz : ∀ {K : Nat → Hp → Prop}, dwp P F (sizeOf elem) h K = K i.size h := by
    intro K; rw [dwp_sizeOf, hi]; simp [OptK]
  have hmk : ∀ {k : Nat} {K : Unit → Hp → Prop}, dwp P F (askRoom k) h K = K () h := by
    intro k K; unfold askRoom; split <;> rfl
  have c1 : ¬ ((281474976710656 : Int) < (i.bytes : Int) * (n : Int)) := by
    have h1 := Int.ofNat_le.2 hb
    rw [Int.natCast_mul] at h1
    omega
  have c0 : ¬ ((n : Int) < 0) := by omega
  unfold vop
  simp only [execOp, Instr.makeSlice, hx, hy]
  simp [-bind_pure_comp, asInt, asIntOf, dwp_bind', dwp_underlying, hu, OptK_some, BindK_app, dwp_pure', hti, hsz, hmk, hw, c0, c1]
  have e0 : ∀ f : Nat → Value, (Array.range 0).map f = ([] : List Value).toArray := fun f => by simp
  by_cases h0 : n * i.size = 0
  · rcases Nat.mul_eq_zero.1 h0 with h1 | h1
    · subst h1
      simp [-bind_pure_comp, dwp_bind', dwp_pure', BindK_app, newRow, dwp_newObj, cyc_zero, kfin]
      rw [e0]
      exact Iff.rfl
    · simp [-bind_pure_comp, h1, dwp_bind', dwp_pure', BindK_app, newRow, dwp_newObj, cyc_zero, kfin]
      rw [e0]
      exact Iff.rfl
  · rw [if_neg h0]
    simp only [dwp_bind', BindK_app, hze, newRow, range_cyc]
    exact Iff.rfl
theorem stp_makeSlice {n size bytes : Nat} {zs : List Value} {x y : Operand} (hx : a.eval x = .int .i64 n) (hy : a.eval y = .int .i64 n) (hu : P.underlying t = some (.slice elem)) (hi : ∃ i z, P.info? elem = some i ∧ i.zero = some z ∧ z.cells.toList = zs ∧ i.size = size ∧ i.bytes = bytes) (hb : bytes * n ≤ 281474976710656) (hn : n < 9223372036854775808)
    (H : NewK F (.cells (cyc zs 0 (n * size)).toArray elem) (fun g h' => K (a.put dst (.slice (some ⟨g, 0, none⟩) n n)) h') h) : stp P F S false ⟨dst, .makeSlice t x y, ty, pos, af, g⟩ a h K := by
  obtain ⟨i, z, h1, h2, rfl, rfl, rfl⟩ := hi
  exact ⟨_, _, AL_makeSlice hx hy hu h1 h2 hb hn, H⟩
theorem dop_makeS {n size bytes : Nat} {zs : List Value} {x y : Operand} (hx : a.eval x = .int .i64 n) (hy : a.eval y = .int .i64 n) (hu : P.underlying t = some (.slice elem)) (hi : ∃ i z, P.info? elem = some i ∧ i.zero = some z ∧ z.cells.toList = zs ∧ i.size = size ∧ i.bytes = bytes) (hb : bytes * n ≤ 281474976710656) (hn : n < 9223372036854775808)
    (H : NewK F (.cells (cyc zs 0 (n * size)).toArray elem) (fun g h' => K (a.put dst (.slice (some ⟨g, 0, none⟩) n n)) h') h) : dop P F ⟨dst, .makeSlice t x y, ty, pos, af, g⟩ a h K := by
  obtain ⟨i, z, h1, h2, rfl, rfl, rfl⟩ := hi
  rw [dop_vop]
  exact (AL_makeSlice hx hy hu h1 h2 hb hn h _).2 H
end
end Go.SL
