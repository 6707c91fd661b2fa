/-
  A walk over a part of memory, eighth part: trees that look at nothing but the program; '=='.
  Conditions: none. Plain theorems and definitions.
-/
import Derived.Test.YtdhdfdaclbfkiaaS7
import Derived.Laws.StructEq
set_option linter.unusedSimpArgs false
namespace Go.SL
open Go.RowKit
section
variable {α β : Type} {P : Program} {F : Fr} {S h : Hp}
def dry (P : Program) : Sem α → Option α
  | .pure a => some a
  | .program k => dry P (k P)
  | .mark _ k => dry P k
  | _ => none
theorem dry_rval {v : α} : ∀ (s : Sem α), dry P s = some v → rval P F s S = some v := by
  intro s
  induction s with
  | pure a => exact fun e => e
  | program k ih => exact fun e => ih _ e
  | mark m k ih => exact fun e => ih e
  | _ => intro e; simp [dry] at e
theorem dry_dwp {v : α} {K : α → Hp → Prop} : ∀ (s : Sem α), dry P s = some v → dwp P F s h K = K v h := by
  intro s
  induction s with
  | pure a => intro e; simp only [dry, Option.some.injEq] at e; subst e; rfl
  | program k ih => exact fun e => ih _ e
  | mark m k ih => exact fun e => ih e
  | _ => intro e; simp [dry] at e
def DB (P : Program) (f : α → Sem β) : Option α → Option β
  | some a => dry P (f a)
  | none => none
theorem DB_some {f : α → Sem β} {a : α} : DB P f (some a) = dry P (f a) := rfl
theorem dry_bind' {f : α → Sem β} : ∀ {s : Sem α}, dry P (s >>= f) = DB P f (dry P s) := by
  intro s
  show dry P (s.bind f) = _
  induction s <;> simp only [Sem.bind, dry] <;> first | rfl | simp_all
theorem dry_pure' {a : α} : dry P (pure a) = some a := rfl
theorem dry_program : dry P program = some P := rfl
theorem dry_un {t : TypeId} {d : TypeDesc} (e : P.underlying t = some d) : dry P (underlying t) = some d := by
  simp only [underlying, dry_bind', dry_program, DB_some, e]; rfl
theorem dry_size {t n : Nat} (e : ∀ w, (sizeOf t).run P w = .ok n w) : dry P (sizeOf t) = some n := by
  have e1 := e default
  simp only [sizeOf, typeInfo, dry_bind', dry_program, DB_some] at e1 ⊢
  simp only [program, bind, Sem.bind, Sem.run] at e1
  cases ho : P.info? t with
  | none => rw [ho] at e1; simp [stuck, Sem.bind] at e1
  | some i => rw [ho] at e1; simp only [pure, Sem.bind, Sem.run, Result.ok.injEq, and_true] at e1; subst e1; rfl
theorem dry_agg {t : Nat} {b : Bool} (e : ∀ w, (isAgg t).run P w = .ok b w) : dry P (isAgg t) = some b := by
  have e1 := e default
  simp only [isAgg, underlying, dry_bind', dry_program, DB_some] at e1 ⊢
  simp only [program, bind, Sem.bind, Sem.run] at e1
  cases ho : P.underlying t with
  | none => rw [ho] at e1; simp [stuck, Sem.bind] at e1
  | some d =>
    rw [ho] at e1
    simp only [pure, Sem.bind] at e1
    show DB P _ (some d) = _
    cases d <;> simp only [Sem.run, Result.ok.injEq, and_true] at e1 <;> subst e1 <;> rfl
theorem dry_equalB {d : Nat} {t : TypeId} {a b : Bool} (e : P.underlying t = some .bool) : dry P (Op.equalIn (d + 1) t (.bool a) (.bool b)) = some (a == b) := by
  simp only [Op.equalIn, dry_bind', dry_un e, DB_some]; rfl
theorem dry_equalI {d : Nat} {t : TypeId} {k k' : IntKind} {a b : Int} (e : P.underlying t = some (.int k')) : dry P (Op.equalIn (d + 1) t (.int k a) (.int k b)) = some (a == b) := by
  simp only [Op.equalIn, dry_bind', dry_un e, DB_some, if_true]; rfl
theorem dry_eqlB {t : TypeId} {a b : Bool} (e : P.underlying t = some .bool) : dry P (binOp .eql t (.bool a) (.bool b)) = some (.bool (a == b)) := by
  show dry P (Op.equalIn (9999 + 1) t (.bool a) (.bool b) >>= _) = _
  rw [dry_bind', dry_equalB e]; rfl
theorem dry_neqB {t : TypeId} {a b : Bool} (e : P.underlying t = some .bool) : dry P (binOp .neq t (.bool a) (.bool b)) = some (.bool (!(a == b))) := by
  show dry P (Op.equalIn (9999 + 1) t (.bool a) (.bool b) >>= _) = _
  rw [dry_bind', dry_equalB e]; rfl
/-- '==' field by field. -/
def eqF (P : Program) (d : Nat) (xs ys : Array Value) : List Field → Option Bool
  | [] => some true
  | f :: r => if f.name ≠ "_" then
      match dry P (part f.type xs f.offset), dry P (part f.type ys f.offset) with
      | some a, some b => match dry P (Op.equalIn d f.type a b), eqF P d xs ys r with
        | some x, some y => some (x && y)
        | _, _ => none
      | _, _ => none
    else eqF P d xs ys r
theorem dry_equalS {d : Nat} {t : TypeId} {xs ys : Array Value} {fs : List Field} (e : P.underlying t = some (.struct fs.toArray)) (hp : P.stoodInHeld t = false) {v : Bool} (hv : eqF P d xs ys fs = some v) : dry P (Op.equalIn (d + 1) t (.agg xs) (.agg ys)) = some v := by
  have key : ∀ (fs : List Field) (v : Bool), eqF P d xs ys fs = some v → dry P (do
      let __s ← forIn fs ((none, ()) : Option Bool × Unit) (fun f _ => (do
        if f.name ≠ "_" then
          let b ← Op.equalIn d f.type (← part f.type xs f.offset) (← part f.type ys f.offset)
          if (!b) = true then pure (ForInStep.done (some false, ())) else pure (ForInStep.yield (none, ()))
        else pure (ForInStep.yield (none, ())) : Sem (ForInStep (Option Bool × Unit))))
      match __s.fst with
      | some r => pure r
      | none => pure true) = some v := by
    intro fs
    induction fs with
    | nil => intro v hv; rw [List.forIn_nil, pure_bind]; exact hv
    | cons f r ih =>
      intro v hv
      rw [eqF] at hv
      rw [List.forIn_cons]
      by_cases hn : f.name ≠ "_"
      · rw [if_pos hn] at hv
        cases h1 : dry P (part f.type xs f.offset) with
        | none => rw [h1] at hv; cases hv
        | some x =>
          cases h2 : dry P (part f.type ys f.offset) with
          | none => rw [h1, h2] at hv; cases hv
          | some y =>
            rw [h1, h2] at hv
            simp only at hv
            cases h3 : dry P (Op.equalIn d f.type x y) with
            | none => rw [h3] at hv; cases hv
            | some b =>
              cases h4 : eqF P d xs ys r with
              | none => rw [h3, h4] at hv; cases hv
              | some b' =>
                rw [h3, h4] at hv
                simp only [Option.some.injEq] at hv
                subst hv
                simp only [if_pos hn, bind_assoc, dry_bind', h1, h2, h3, DB_some]
                cases b
                · rfl
                · have := ih b' h4
                  simp only [dry_bind'] at this
                  simpa [dry_bind', DB_some, dry_pure'] using this
      · rw [if_neg hn] at hv
        have := ih v hv
        simp only [if_neg hn, pure_bind]
        exact this
  have := key fs v hv
  simp only [Op.equalIn, dry_bind', dry_un e, DB_some, dry_program, hp, List.forIn_toArray, Bool.false_eq_true, if_false]
  simp only [dry_bind'] at this
  refine Eq.trans ?_ this
  congr 1
  · funext s
    obtain ⟨x, u⟩ := s
    cases x <;> rfl
theorem dry_eqlS {t : TypeId} {xs ys : Array Value} {fs : List Field} (e : P.underlying t = some (.struct fs.toArray)) (hp : P.stoodInHeld t = false) {v : Bool} (hv : eqF P 9999 xs ys fs = some v) : dry P (binOp .eql t (.agg xs) (.agg ys)) = some (.bool v) := by
  show dry P (Op.equalIn (9999 + 1) t (.agg xs) (.agg ys) >>= _) = _
  rw [dry_bind', dry_equalS e hp hv]; rfl
theorem dry_neqS {t : TypeId} {xs ys : Array Value} {fs : List Field} (e : P.underlying t = some (.struct fs.toArray)) (hp : P.stoodInHeld t = false) {v : Bool} (hv : eqF P 9999 xs ys fs = some v) : dry P (binOp .neq t (.agg xs) (.agg ys)) = some (.bool (!v)) := by
  show dry P (Op.equalIn (9999 + 1) t (.agg xs) (.agg ys) >>= _) = _
  rw [dry_bind', dry_equalS e hp hv]; rfl
theorem eqF_int {d : Nat} {xs ys : Array Value} {f : Field} {r : List Field} {k k' : IntKind} {a b : Int} {v : Bool} (hn : (f.name == "_") = false) (hg : ∀ w, (isAgg f.type).run P w = .ok false w) (hu : P.underlying f.type = some (.int k'))
    (hx : xs[f.offset]? = some (.int k a)) (hy : ys[f.offset]? = some (.int k b)) (hv : eqF P (d + 1) xs ys r = some v) : eqF P (d + 1) xs ys (f :: r) = some ((a == b) && v) := by
  have hn' : f.name ≠ "_" := by simpa using hn
  have p1 : dry P (part f.type xs f.offset) = some (.int k a) := by
    simp only [part, dry_bind', dry_agg hg, DB_some, hx, Bool.false_eq_true, if_false]; rfl
  have p2 : dry P (part f.type ys f.offset) = some (.int k b) := by
    simp only [part, dry_bind', dry_agg hg, DB_some, hy, Bool.false_eq_true, if_false]; rfl
  rw [eqF, if_pos hn', p1, p2]
  simp only [dry_equalI hu, hv]
theorem eqF_nil {d : Nat} {xs ys : Array Value} : eqF P d xs ys [] = some true := rfl
end
theorem max2_eq {ts : Array TypeId} {t : TypeId} {k : IntKind} {x y : Int} : Builtin.max_ ts t #[.int k x, .int k y] = pure (.int k (max x y)) := by
  have : Builtin.max_ ts t #[.int k x, .int k y] = pure (.int k (if y > x then y else x)) := by
    simp [Builtin.max_, Builtin.max2]
  rw [this]
  congr 2
  split <;> omega
theorem min2_eq {ts : Array TypeId} {t : TypeId} {k : IntKind} {x y : Int} : Builtin.min_ ts t #[.int k x, .int k y] = pure (.int k (min x y)) := by
  have : Builtin.min_ ts t #[.int k x, .int k y] = pure (.int k (if y < x then y else x)) := by
    simp [Builtin.min_, Builtin.min2]
  rw [this]
  congr 2
  split <;> omega
end Go.SL
namespace Go.SL
theorem quo_eq {t : TypeId} {k : IntKind} {a b : Int} (h : (b == 0) = false) : binOp .quo t (.int k a) (.int k b) = pure (.int k (k.wrap (a.tdiv b))) := by
  have : b ≠ 0 := by simpa using h
  simp [binOp, Op.intDiv, this]
theorem rem_eq {t : TypeId} {k : IntKind} {a b : Int} (h : (b == 0) = false) : binOp .rem t (.int k a) (.int k b) = pure (.int k (a.tmod b)) := by
  have : b ≠ 0 := by simpa using h
  simp [binOp, Op.intDiv, this]
end Go.SL
namespace Go.SL
theorem dry_convI {P : Program} {s d : TypeId} {k k' : IntKind} {n : Int} {u : TypeDesc} (hs : P.underlying s = some u) (hd : P.underlying d = some (.int k')) : dry P (convert s d (.int k n)) = some (.int k' (k'.wrap n)) := by
  simp only [convert, dry_bind', dry_un hs, dry_un hd, DB_some]
  cases u <;> rfl

/-! ### Loops of a few rounds; cells of a row -/
/-- At most so many rounds. -/
def RoundK (P : Program) (F : Fr) (c : Code) (Q : Exit → Act → Hp → Prop) : Nat → Act → Hp → Prop
  | 0, _, _ => False
  | n + 1, a, h => dcode P F c (Then (RoundK P F c Q n) Q) a h
theorem RoundK_succ {P : Program} {F : Fr} {c : Code} {Q : Exit → Act → Hp → Prop} {n : Nat} {a : Act} {h : Hp} : RoundK P F c Q (n + 1) a h = dcode P F c (Then (RoundK P F c Q n) Q) a h := rfl
theorem DLoop.rounds {P : Program} {F : Fr} {c : Code} {Q : Exit → Act → Hp → Prop} {a : Act} {h : Hp} (n : Nat) (h0 : RoundK P F c Q n a h) : DLoop P F c Q a h := by
  intro ro hro w r
  refine wpIn_loop_ghost (fun n a w => ∃ h, RoundK P F c Q n a h ∧ HRel F h w) n ⟨h, h0, r⟩ ?_
  rintro k a w ⟨h, hI, r⟩
  cases k with
  | zero => exact hI.elim
  | succ k =>
    refine wpIn_mono (dcode_sound _ _ _ _ hI ro hro w r) ?_
    rintro e a' w' ⟨h', q, r'⟩
    cases e with
    | normal => exact ⟨k, Nat.lt_succ_self k, h', q, r'⟩
    | _ => exact ⟨h', q, r'⟩
/-- The cells of a row. -/
def readV (ro : Addr → Option Value) (b : Nat) : Nat → Nat → Option (List Value)
  | _, 0 => some []
  | off, n + 1 => match ro ⟨b, off, none⟩ with
    | some v => (readV ro b (off + 1) n).map (v :: ·)
    | none => none
def readVC (ro : Addr → Option Value) (b off n : Nat) : Option Value → Option (List Value)
  | some v => (readV ro b (off + 1) n).map (v :: ·)
  | none => none
theorem readV_zero {ro : Addr → Option Value} {b off : Nat} : readV ro b off 0 = some [] := rfl
theorem readV_succ {ro : Addr → Option Value} {b off n : Nat} : readV ro b off (n + 1) = readVC ro b off n (ro ⟨b, off, none⟩) := by
  unfold readVC
  rw [readV]
theorem readVC_some {ro : Addr → Option Value} {b off n : Nat} {v : Value} : readVC ro b off n (some v) = (readV ro b (off + 1) n).map (v :: ·) := rfl
theorem readV_get {ro : Addr → Option Value} {b : Nat} : ∀ {n off : Nat} {xs : List Value}, readV ro b off n = some xs → ∀ i x, xs[i]? = some x → ro ⟨b, off + i, none⟩ = some x := by
  intro n
  induction n with
  | zero => intro off xs e i x hx; simp only [readV, Option.some.injEq] at e; subst e; simp at hx
  | succ n ih =>
    intro off xs e i x hx
    rw [readV_succ] at e
    unfold readVC at e
    split at e
    · rename_i y hy
      cases hr : readV ro b (off + 1) n with
      | none => rw [hr] at e; cases e
      | some r =>
        rw [hr] at e; simp only [Option.map_some, Option.some.injEq] at e; subst e
        cases i with
        | zero => simp only [List.getElem?_cons_zero, Option.some.injEq] at hx; subst hx; exact hy
        | succ i => simp only [List.getElem?_cons_succ] at hx; have := ih hr i x hx; rwa [Nat.add_assoc, Nat.add_comm 1 i] at this
    · cases e
theorem readV_mono {ro ro' : Addr → Option Value} (hr : ∀ a u, ro a = some u → ro' a = some u) {b : Nat} : ∀ {n off : Nat} {xs : List Value}, readV ro b off n = some xs → readV ro' b off n = some xs := by
  intro n
  induction n with
  | zero => exact fun e => e
  | succ n ih =>
    intro off xs e
    rw [readV_succ] at e ⊢
    unfold readVC at e
    split at e
    · rename_i x hx
      rw [hr _ _ hx, readVC_some]
      cases hh : readV ro b (off + 1) n with
      | none => rw [hh] at e; cases e
      | some r => rw [hh] at e; rw [ih hh]; exact e
    · cases e
end Go.SL
