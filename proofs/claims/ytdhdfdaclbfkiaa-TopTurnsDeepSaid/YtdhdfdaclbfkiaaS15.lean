/-
  A walk over a part of memory, fifteenth part: calls that are walked into; maps of integers.
  Conditions: none. Plain theorems.
-/
import Derived.Test.YtdhdfdaclbfkiaaS14
set_option linter.unusedVariables false
set_option linter.unusedSimpArgs false
namespace Go.SL
open Go.RowKit
section
variable {P : Program} {F : Fr} {S h : Hp}
/-- A call that is walked into. -/
theorem DCall.inl {f : FuncId} {fn : Func} {c : Code} {args : Array Value} {K : Value → Hp → Prop} {rs : List ResultVar} (hf : P.funcs[f]? = some fn) (hb : fn.body = some c) (hr : fn.results.toList = rs)
    (hd : dcode P F c (Post P F rs K) { tmps := args ++ Array.replicate (fn.ntmps - args.size) undef, defers := [] } h) : DCall P F f args h K :=
  ⟨fun _ r => calls_of hf hb hr r hd⟩
/-- A call that a region which draws makes, walked into: from each state in which S is as it is. -/
theorem CallV.inl {f : FuncId} {args : Array Value} {K : Value → Hp → Prop} (v : Value) (hi : P.inits.idxOf? f = none) (hd : ∀ h', (∀ g o, S.own g = some o → h'.own g = some o) → ∀ K' : Value → Hp → Prop, K' v h' → DCall P F f args h' K') (hk : K v h) : CallV P F S f args K h :=
  ⟨v, ⟨hi, fun h' i K' hk' => hd h' i.keep K' hk'⟩, hk⟩
def ObjK (K : Obj → Hp → Prop) (h : Hp) : Option Obj → Prop
  | some (.cells ..) => False
  | some o => K o h
  | none => False
theorem ObjK_map {K : Obj → Hp → Prop} {es : Array MapEntry} {c : Nat} : ObjK K h (some (.map es c)) = K (.map es c) h := rfl
theorem dwp_getObj' {r : Nat} {K : Obj → Hp → Prop} : dwp P F (getObj r) h K = ObjK K h (h.own r) := by
  simp only [getObj, dwp]
  cases h.own r with
  | none => rfl
  | some o => cases o <;> rfl
def SetK (r : Nat) (o : Obj) (K : Unit → Hp → Prop) (h : Hp) : Option Obj → Prop
  | some (.cells ..) => False
  | some _ => K () (h.set r o)
  | none => False
theorem SetK_map {r : Nat} {o : Obj} {K : Unit → Hp → Prop} {es : Array MapEntry} {c : Nat} : SetK r o K h (some (.map es c)) = K () (h.set r o) := rfl
theorem dwp_setObj' {r : Nat} {o : Obj} {K : Unit → Hp → Prop} : dwp P F (setObj r o) h K = SetK r o K h (h.own r) := by
  simp only [setObj, dwp]
  cases h.own r with
  | none => rfl
  | some o => cases o <;> rfl
/-- The entries of a map of integers. -/
def mkEs : List (Int × Int) → Nat → List MapEntry
  | [], _ => []
  | p :: r, b => ⟨.int .i64 p.1, .int .i64 p.2, b⟩ :: mkEs r (b + 1)
theorem mkEs_len (l : List (Int × Int)) (b : Nat) : (mkEs l b).length = l.length := by
  induction l generalizing b with
  | nil => rfl
  | cons p r ih => simp [mkEs, ih]
theorem mkEs_snoc (l : List (Int × Int)) (p : Int × Int) (b : Nat) : mkEs (l ++ [p]) b = mkEs l b ++ [⟨.int .i64 p.1, .int .i64 p.2, b + l.length⟩] := by
  induction l generalizing b with
  | nil => simp [mkEs]
  | cons q r ih => simp only [List.cons_append, mkEs, ih, List.length_cons]; rw [show b + 1 + r.length = b + (r.length + 1) by omega]
def lookL : List (Int × Int) → Int → Option Int
  | [], _ => none
  | p :: r, k => if k = p.1 then some p.2 else lookL r k
theorem find_lookL (l : List (Int × Int)) (k : Int) : ∀ (b i : Nat), (∃ j, Instr.findNow (.int .i64) (.int .i64 k) (mkEs l b) i = some ((lookL l k).map fun w => (j, .int .i64 w))) := by
  induction l with
  | nil => exact fun b i => ⟨0, rfl⟩
  | cons p r ih =>
    intro b i
    by_cases hk : k = p.1
    · refine ⟨i, ?_⟩
      simp [mkEs, Instr.findNow, Instr.sameNow, lookL, hk]
    · obtain ⟨j, hj⟩ := ih (b + 1) (i + 1)
      refine ⟨j, ?_⟩
      have e : (k == p.1) = false := by simpa using hk
      simp only [mkEs, Instr.findNow, Instr.sameNow, lookL, e, if_neg hk, if_true]
      exact hj
/-- A look into a map of integers. -/
theorem dwp_checkKey {empty : Bool} {t : TypeId} {k : IntKind} {v : Value} {K : Unit → Hp → Prop} (hu : P.underlying t = some (.int k)) : dwp P F (Instr.checkKey empty 10000 t v) h K = K () h := by
  show dwp P F (Instr.checkKey empty (9999 + 1) t v) h K = _
  unfold Instr.checkKey
  rw [dwp_bind', dwp_underlying, hu, OptK_some, BindK_app]
  cases v <;> rfl
theorem dwp_findKey {t : TypeId} {k : Int} {l : List (Int × Int)} {b : Nat} (hu : P.underlying t = some (.int .i64)) :
    ∃ j, ∀ K : Option (Nat × Value) → Hp → Prop, dwp P F (Instr.findKey t (.int .i64 k) (mkEs l b)) h K = K ((lookL l k).map fun w => (j, .int .i64 w)) h := by
  obtain ⟨j, hj⟩ := find_lookL l k b 0
  refine ⟨j, fun K => ?_⟩
  unfold Instr.findKey
  rw [dwp_bind', dwp_underlying, hu, OptK_some, BindK_app, hj]
  rfl
theorem dwp_lookupI {t key elem r c : Nat} {k w : Int} {l : List (Int × Int)} {b : Nat} {K : Value → Hp → Prop} (ht : P.underlying t = some (.map key elem)) (hu : P.underlying key = some (.int .i64)) (hm : h.own r = some (.map (mkEs l b).toArray c)) (hl : lookL l k = some w) :
    dwp P F (Instr.lookup t (.map (some r)) (.int .i64 k) false) h K = K (.int .i64 w) h := by
  unfold Instr.lookup
  rw [dwp_bind', dwp_underlying, ht, OptK_some, BindK_app]
  dsimp only
  rw [dwp_bind', dwp_getObj', hm, ObjK_map, BindK_app]
  dsimp only
  rw [pure_bind, dwp_bind', dwp_checkKey hu, BindK_app, dwp_bind']
  obtain ⟨j, hj⟩ := dwp_findKey (P := P) (F := F) (h := h) (t := key) (k := k) (l := l) (b := b) hu
  rw [hj, hl]
  rfl
theorem dwp_updateI {t key elem r c : Nat} {k : Int} {x : Value} {l : List (Int × Int)} {b : Nat} {K : Unit → Hp → Prop} (ht : P.underlying t = some (.map key elem)) (hu : P.underlying key = some (.int .i64)) (hm : h.own r = some (.map (mkEs l b).toArray c)) (hl : lookL l k = none) :
    dwp P F (Instr.mapUpdate t (.map (some r)) (.int .i64 k) x) h K = K () (h.set r (.map ((mkEs l b).toArray.push ⟨.int .i64 k, x, c⟩) (c + 1))) := by
  unfold Instr.mapUpdate
  rw [dwp_bind', dwp_underlying, ht, OptK_some, BindK_app]
  dsimp only
  rw [dwp_bind', dwp_getObj', hm, ObjK_map, BindK_app]
  dsimp only
  rw [dwp_bind', dwp_checkKey hu, BindK_app, dwp_bind']
  obtain ⟨j, hj⟩ := dwp_findKey (P := P) (F := F) (h := h) (t := key) (k := k) (l := l) (b := b) hu
  rw [hj, hl]
  show dwp P F (setObj r _) h K = _
  rw [dwp_setObj', hm, SetK_map]
def MapN (K : Value → Hp → Prop) (g : Nat) (h : Hp) : Prop := K (.map (some g)) h
theorem MapN_app {K : Value → Hp → Prop} {g : Nat} : MapN K g h = K (.map (some g)) h := rfl
theorem dwp_makeMap {t : TypeId} {K : Value → Hp → Prop} : dwp P F (Instr.makeMap t none) h K = NewK F (.map #[] 0) (MapN K) h := rfl
theorem notAgg_map {r : Option Nat} : notAgg (.map r) = true := rfl
theorem cells_map (r : Option Nat) : Value.cells (.map r) = #[.map r] := rfl
theorem own_cells {o : Obj} {h : Hp} {x : Nat} (e : h.own x = some o) : ∀ b, h.own b = none → ¬ x = b := fun b hb he => by subst he; rw [e] at hb; cases hb
end
end Go.SL
