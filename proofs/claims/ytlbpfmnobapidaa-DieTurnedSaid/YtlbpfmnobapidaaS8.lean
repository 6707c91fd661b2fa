/-
  A walk over a part of memory: what a call owns and what it may read. Conditions: none. Plain theorems and definitions.
-/
import Derived.Test.YtlbpfmnobapidaaS6
import Derived.Deep.LoopGhost
import Derived.IntWalk
import Derived.Handy
import Derived.Laws.StructEq
set_option linter.unusedVariables false
set_option linter.unusedSimpArgs false
set_option linter.unusedSimpArgs false
namespace Go.SL
open Go.RowKit
section
variable {P : Program} {F : Fr} {S h : Hp} {f : FuncId} {args : Array Value} {v : Value}
/-- What is kept from the simplifier's eyes. -/
structure Hold (p : Prop) : Prop where
  out : p
/-- The value that is to come back. -/
def EqV (v v' : Value) (_ : Hp) : Prop := v' = v
theorem EqV_app {v v' : Value} : EqV v v' h = (v' = v) := rfl
/-- A function that reads the cells of ro at most, and leaves all that was there. -/
structure Cr (P : Program) (f : FuncId) (args : Array Value) (ro : Addr → Option Value) (v : Value) : Prop where
  out : ∀ w, (∀ a u, ro a = some u → w.cell? a = some u) → Calls P f args w fun e w' => e = .returned v ∧ Below w.heap.size w w'
theorem Cr.call {K : Value → Hp → Prop} (c : Cr P f args (h.cell? F) v) (hk : K v h) : DCall P F f args h K :=
  ⟨fun w r => (c.out w (fun _ _ e => r.cell e)).mono fun _ _ ⟨he, hb⟩ => ⟨v, h, he, hk, r.after hb⟩⟩
theorem Cr.mono {ro ro' : Addr → Option Value} (c : Cr P f args ro v) (hr : ∀ a u, ro a = some u → ro' a = some u) : Cr P f args ro' v :=
  ⟨fun w hw => c.out w fun a u e => hw a u (hr a u e)⟩
theorem CallV.of {K : Value → Hp → Prop} (c : Cr P f args (S.cell? F) v) (hi : P.inits.idxOf? f = none) (hk : K v h) : CallV P F S f args K h :=
  ⟨v, ⟨hi, fun _ i _ hk' => ⟨fun w r => (c.out w (fun _ _ e => r.cell (i.cell e))).mono fun _ _ ⟨he, hb⟩ => ⟨v, _, he, hk', r.after hb⟩⟩⟩, hk⟩
theorem Cr.of {fn : Func} {c : Code} {rs : List ResultVar} {ro : Addr → Option Value} (hf : P.funcs[f]? = some fn) (hb : fn.body = some c) (hr : fn.results.toList = rs)
    (hd : ∀ F : Fr, F.ro = ro → dcode P F c (Post P F rs (EqV v)) { tmps := args ++ Array.replicate (fn.ntmps - args.size) undef, defers := [] } Hp.none_) : Cr P f args ro v := by
  refine ⟨fun w hw => ?_⟩
  let F : Fr := ⟨w, fun _ => False, ro, fun a u e => ⟨hw a u e, fun x => x⟩, true⟩
  refine (calls_of hf hb hr (HRel.start F Hp.none_ (fun _ => rfl)) (hd F rfl)).mono fun e w' hh => ?_
  obtain ⟨v', h', rfl, rfl, r'⟩ := hh
  exact ⟨rfl, r'.below (fun _ x => x)⟩
theorem Hp.cell_ro {a : Addr} {u : Value} (e : F.ro a = some u) : h.cell? F a = some u := by
  unfold Hp.cell?
  rw [e]

/-! ### Loops -/
/-- Behind a round: the loop's state, with a smaller number. -/
def LoopK (I : Nat → Act → Hp → Prop) (k : Nat) (a : Act) (h : Hp) : Prop := ∃ k', k' < k ∧ I k' a h
theorem LoopK.intro {I : Nat → Act → Hp → Prop} {k : Nat} {a : Act} {h : Hp} (k' : Nat) (h1 : k' < k) (h2 : I k' a h) : LoopK I k a h := ⟨k', h1, h2⟩
theorem wpIn_loop_ghost {G : Fence} {m : Nat} {c : Code} {Q : Exit → Act → World → Prop} {a : Act} {w : World} (I : Nat → Act → World → Prop) (n : Nat) (h0 : I n a w)
    (round : ∀ n a w, I n a w → c.wpIn G m P (Exit.then (fun a' w' => ∃ n', n' < n ∧ I n' a' w') Q) a w) : (Code.loop c).wpIn G m P Q a w := by
  intro b k cs hro hb hr
  have key : ∀ n a w, I n a w → ∃ e a' w', Q e a' w' ∧ ArrivesIn (Machine.fenced P G) P (lone (b.atR a (.code c :: .inLoop c :: k)) cs w) b k cs e a' w' := by
    intro n
    induction n using Nat.strongRecOn with
    | _ n ih =>
      intro a w hI
      obtain ⟨e, a1, w1, hq, harr⟩ := round n a w hI b (.inLoop c :: k) cs hro hb hr
      cases e with
      | normal =>
        obtain ⟨n', hlt, hI'⟩ := hq
        obtain ⟨e2, a2, w2, hq2, harr2⟩ := ih n' hlt a1 w1 hI'
        exact ⟨e2, a2, w2, hq2, .of_steps (StepsIn.trans harr (.one (fenced_calm hb hr rfl) stepR_inLoop)) harr2⟩
      | exit id => exact ⟨_, a1, w1, hq, .pass (x := .inLoop c) rfl (fun _ _ => .inl (by simp)) harr⟩
      | goto l => exact ⟨_, a1, w1, hq, .pass (x := .inLoop c) rfl (fun _ _ => .inl (by simp)) harr⟩
      | ret => exact ⟨_, a1, w1, hq, .pass (x := .inLoop c) rfl (fun _ _ => .inl (by simp)) harr⟩
      | panic ch => exact ⟨_, a1, w1, hq, .pass (x := .inLoop c) rfl (fun _ _ => .inl (by simp)) harr⟩
      | outgrown => exact ⟨_, a1, w1, hq, .pass (x := .inLoop c) rfl (fun _ _ => .inl (by simp)) harr⟩
  obtain ⟨e, a', w', hq, harr⟩ := key n a w h0
  exact ⟨e, a', w', hq, .of_steps (.one (fenced_calm hb hr rfl) stepR_loop) harr⟩
theorem DLoop.ind {c : Code} {Q : Exit → Act → Hp → Prop} {a : Act} (I : Nat → Act → Hp → Prop) (n : Nat) (h0 : I n a h) (step : ∀ k a h, I k a h → dcode P F c (Then (LoopK I k) Q) a h) : DLoop P F c Q a h := by
  intro ro hro w r
  refine wpIn_loop_ghost (fun n a w => ∃ h, I n a h ∧ HRel F h w) n ⟨h, h0, r⟩ ?_
  rintro k a w ⟨h, hI, r⟩
  refine wpIn_mono (dcode_sound _ _ _ _ (step k a h hI) ro hro w r) ?_
  rintro e a' w' ⟨h', q, r'⟩
  cases e with
  | normal =>
    obtain ⟨k', h1, h2⟩ := q
    exact ⟨k', h1, h', h2, r'⟩
  | _ => exact ⟨h', q, r'⟩

/-! ### Lists of integers that are read -/
/-- The integers of a row. -/
def readI (ro : Addr → Option Value) (b : Nat) : Nat → Nat → Option (List Int)
  | _, 0 => some []
  | off, n + 1 => match ro ⟨b, off, none⟩ with
    | some (.int .i64 x) => match readI ro b (off + 1) n with
      | some r => some (x :: r)
      | none => none
    | _ => none
def readC (ro : Addr → Option Value) (b off n : Nat) : Option Value → Option (List Int)
  | some (.int .i64 x) => (readI ro b (off + 1) n).map (x :: ·)
  | _ => none
theorem readI_zero {ro : Addr → Option Value} {b off : Nat} : readI ro b off 0 = some [] := rfl
theorem readI_succ {ro : Addr → Option Value} {b off n : Nat} : readI ro b off (n + 1) = readC ro b off n (ro ⟨b, off, none⟩) := by
  unfold readC
  rw [readI]
  split
  · cases readI ro b (off + 1) n <;> rfl
  · rfl
theorem readC_some {ro : Addr → Option Value} {b off n : Nat} {x : Int} : readC ro b off n (some (.int .i64 x)) = (readI ro b (off + 1) n).map (x :: ·) := rfl
theorem readI_len {ro : Addr → Option Value} {b : Nat} : ∀ {n off : Nat} {xs : List Int}, readI ro b off n = some xs → xs.length = n := by
  intro n
  induction n with
  | zero => intro off xs e; simp only [readI, Option.some.injEq] at e; subst e; rfl
  | succ n ih =>
    intro off xs e
    rw [readI_succ] at e
    unfold readC at e
    split at e
    · rename_i x _
      cases hr : readI ro b (off + 1) n with
      | none => rw [hr] at e; cases e
      | some r => rw [hr] at e; simp only [Option.map_some, Option.some.injEq] at e; subst e; simp [ih hr]
    · cases e
theorem readI_get {ro : Addr → Option Value} {b : Nat} : ∀ {n off : Nat} {xs : List Int}, readI ro b off n = some xs → ∀ i x, xs[i]? = some x → ro ⟨b, off + i, none⟩ = some (.int .i64 x) := by
  intro n
  induction n with
  | zero => intro off xs e i x hx; simp only [readI, Option.some.injEq] at e; subst e; simp at hx
  | succ n ih =>
    intro off xs e i x hx
    rw [readI_succ] at e
    unfold readC at e
    split at e
    · rename_i y hy
      cases hr : readI ro b (off + 1) n with
      | none => rw [hr] at e; cases e
      | some r =>
        rw [hr] at e; simp only [Option.map_some, Option.some.injEq] at e; subst e
        cases i with
        | zero => simp only [List.getElem?_cons_zero, Option.some.injEq] at hx; subst hx; exact hy
        | succ i => simp only [List.getElem?_cons_succ] at hx; have := ih hr i x hx; rwa [Nat.add_assoc, Nat.add_comm 1 i] at this
    · cases e
theorem readI_mono {ro ro' : Addr → Option Value} (hr : ∀ a u, ro a = some u → ro' a = some u) {b : Nat} : ∀ {n off : Nat} {xs : List Int}, readI ro b off n = some xs → readI ro' b off n = some xs := by
  intro n
  induction n with
  | zero => exact fun e => e
  | succ n ih =>
    intro off xs e
    rw [readI_succ] at e ⊢
    unfold readC at e
    split at e
    · rename_i x hx
      rw [hr _ _ hx, readC_some]
      cases hh : readI ro b (off + 1) n with
      | none => rw [hh] at e; cases e
      | some r => rw [hh] at e; rw [ih hh]; exact e
    · cases e
/-- Do all lie between two others? -/
def allI (lo hi : Int) : List Int → Bool
  | [] => true
  | x :: r => decide (lo ≤ x) && (decide (x ≤ hi) && allI lo hi r)
theorem allI_nil {lo hi : Int} : allI lo hi [] = true := rfl
theorem allI_cons {lo hi x : Int} {r : List Int} : allI lo hi (x :: r) = (decide (lo ≤ x) && (decide (x ≤ hi) && allI lo hi r)) := rfl
def allO (lo hi : Int) : Option (List Int) → Bool
  | some l => allI lo hi l
  | none => false
theorem allO_some {lo hi : Int} {l : List Int} : allO lo hi (some l) = allI lo hi l := rfl
theorem allI_any (lo hi : Int) : ∀ l : List Int, (!(l.any fun x => decide (x < lo) || decide (hi < x))) = allI lo hi l := by
  intro l
  induction l with
  | nil => rfl
  | cons x r ih =>
    rw [List.any_cons, allI_cons, ← ih, Bool.not_or]
    by_cases h1 : x < lo <;> by_cases h2 : hi < x <;> simp [h1, h2, Int.not_le.2, Int.not_lt.1] <;> omega
/-- Where the first of them is of which something is so; -1 if there is none. -/
def idxI (p : Int → Bool) : List Int → Int → Int
  | [], _ => -1
  | x :: r, i => if p x then i else idxI p r (i + 1)
theorem idxI_ge (p : Int → Bool) : ∀ (l : List Int) (i : Int), 0 ≤ i → decide (0 ≤ idxI p l i) = l.any p := by
  intro l
  induction l with
  | nil => intro i _; rfl
  | cons x r ih =>
    intro i hi
    have := ih (i + 1) (by omega)
    by_cases h : p x = true
    · simp [idxI, h, hi]
    · simp only [List.any_cons, ← this, idxI, h]; simp
end

section
variable {P : Program} {F : Fr} {S h : Hp} {t e s n c : Nat} {a : Addr} {k : IntKind} {i : Int} {K : Value → Hp → Prop}
theorem dwp_ixS (hu : P.underlying t = some (.slice e)) (hs : ∀ w, (sizeOf e).run P w = .ok s w) (h1 : 0 ≤ i) (h2 : i < (n : Int)) :
    dwp P F (Instr.indexAt t (.slice (some a) n c) (.int k i)) h K = K (.pointer (some (a.add (i.toNat * s)))) h := by
  have hz : ∀ K, dwp P F (sizeOf e) h K = K s h := fun K => dwp_size_of hs
  simp only [Instr.indexAt, asIntOf, dwp_bind', dwp_pure', BindK_app, dwp_underlying, hu, OptK_some, h1, h2, and_self, if_true, hz]
theorem dwp_ixA {m : Nat} (hu : P.underlying t = some (.array m e)) (hs : ∀ w, (sizeOf e).run P w = .ok s w) (h1 : 0 ≤ i) (h2 : i < (m : Int)) :
    dwp P F (Instr.indexAt t (.pointer (some a)) (.int k i)) h K = K (.pointer (some (a.add (i.toNat * s)))) h := by
  have hz : ∀ K, dwp P F (sizeOf e) h K = K s h := fun K => dwp_size_of hs
  simp only [Instr.indexAt, asIntOf, Instr.sureAddr, dwp_bind', dwp_pure', BindK_app, dwp_underlying, hu, OptK_some, h1, h2, and_self, if_true, hz]
theorem rval_ixS (hu : P.underlying t = some (.slice e)) (hs : ∀ w, (sizeOf e).run P w = .ok s w) (h1 : 0 ≤ i) (h2 : i < (n : Int)) :
    rval P F (Instr.indexAt t (.slice (some a) n c) (.int k i)) S = some (.pointer (some (a.add (i.toNat * s)))) := by
  simp only [Instr.indexAt, asIntOf, rval_bind', rval_pure', RB_some, rval_un hu, h1, h2, and_self, if_true, rval_size hs]
theorem rval_ixA {m : Nat} (hu : P.underlying t = some (.array m e)) (hs : ∀ w, (sizeOf e).run P w = .ok s w) (h1 : 0 ≤ i) (h2 : i < (m : Int)) :
    rval P F (Instr.indexAt t (.pointer (some a)) (.int k i)) S = some (.pointer (some (a.add (i.toNat * s)))) := by
  simp only [Instr.indexAt, asIntOf, Instr.sureAddr, rval_bind', rval_pure', RB_some, rval_un hu, h1, h2, and_self, if_true, rval_size hs]
end

/-! ### What a region that draws may write -/
theorem Hp.own_drop {h : Hp} {g b : Nat} : (h.drop b).own g = if g = b then none else h.own g := rfl
def dropAt (h : Hp) : Value → Hp
  | .pointer (some ad) => h.drop ad.block
  | _ => h
theorem dropAt_le {h : Hp} {v : Value} {g : Nat} {o : Obj} (e : (dropAt h v).own g = some o) : h.own g = some o := by
  unfold dropAt at e
  split at e
  · rw [Hp.own_drop] at e
    split at e
    · cases e
    · exact e
  · exact e
/-- The blocks at whose addresses, known ahead, a region stores are left out. -/
def wrote (a : Act) : List Oper → Hp → Hp
  | [], h => h
  | o :: r, h => wrote a r (match o.op with | .store _ x _ => dropAt h (a.eval x) | _ => h)
theorem wrote_le {a : Act} : ∀ {l : List Oper} {h : Hp} {g : Nat} {o : Obj}, (wrote a l h).own g = some o → h.own g = some o := by
  intro l
  induction l with
  | nil => exact fun e => e
  | cons x r ih =>
    intro h g o e
    have := ih e
    split at this
    · exact dropAt_le this
    · exact this
theorem wrote_nil {a : Act} {h : Hp} : wrote a [] h = h := rfl
theorem wrote_cons {a : Act} {h : Hp} {o : Oper} {r : List Oper} : wrote a (o :: r) h = wrote a r (match o.op with | .store _ x _ => dropAt h (a.eval x) | _ => h) := rfl
theorem dropAt_some {h : Hp} {ad : Addr} : dropAt h (.pointer (some ad)) = h.drop ad.block := rfl
theorem dropAt_undef {h : Hp} : dropAt h undef = h := rfl
theorem DDraw.auto {P : Program} {F : Fr} {id : Nat} {l : List Oper} {K : Act → Hp → Prop} {a : Act} {h : Hp} (hm : P.follows .mixedOrders = true) (hok : okDraw [] l = true)
    (ht : TI P F (wrote a l h) l.toArray K [] 0 l a h) : DDraw P F id l.toArray K a h := DDraw.walk [] _ hm hok (fun _ _ e => wrote_le e) ht
/-- The same, with the blocks that are written, and the operations that read them, told. -/
def dropV (h : Hp) : Value → Hp
  | .pointer (some ad) => h.drop ad.block
  | .slice (some ad) _ _ => h.drop ad.block
  | _ => h
theorem dropV_ptr {h : Hp} {ad : Addr} : dropV h (.pointer (some ad)) = h.drop ad.block := rfl
theorem dropV_slice {h : Hp} {ad : Addr} {n c : Nat} : dropV h (.slice (some ad) n c) = h.drop ad.block := rfl
theorem dropV_nil {h : Hp} {n c : Nat} : dropV h (.slice none n c) = h := rfl
/-- The block behind a pointer or a slice. -/
def blk : Value → Option Nat
  | .pointer (some a) => some a.block
  | .slice (some a) _ _ => some a.block
  | _ => none
theorem blk_nil {n c : Nat} : blk (.slice none n c) = none := rfl
theorem blk_some {a : Addr} {n c : Nat} : blk (.slice (some a) n c) = some a.block := rfl
theorem blk_ptr {a : Addr} : blk (.pointer (some a)) = some a.block := rfl
theorem dropV_own {h : Hp} {v : Value} {g : Nat} (hb : blk v ≠ some g) : (dropV h v).own g = h.own g := by
  unfold dropV
  unfold blk at hb
  split <;> simp only [Hp.own_drop] at hb ⊢
  · rename_i ad; rw [if_neg (by rintro rfl; exact hb rfl)]
  · rename_i ad _ _; rw [if_neg (by rintro rfl; exact hb rfl)]
theorem dropV_none {h : Hp} {v : Value} {g : Nat} (hb : blk v = some g ∨ h.own g = none) : (dropV h v).own g = none := by
  by_cases h1 : blk v = some g
  · match v, h1 with
    | .pointer (some a), h1 => cases h1; exact if_pos rfl
    | .slice (some a) _ _, h1 => cases h1; exact if_pos rfl
  · rw [dropV_own h1]; exact hb.resolve_left h1
theorem dropV_le {h : Hp} {v : Value} {g : Nat} {o : Obj} (e : (dropV h v).own g = some o) : h.own g = some o := by
  unfold dropV at e
  split at e
  · rw [Hp.own_drop] at e
    split at e
    · cases e
    · exact e
  · rw [Hp.own_drop] at e
    split at e
    · cases e
    · exact e
  · exact e
def drops (a : Act) : List Operand → Hp → Hp
  | [], h => h
  | x :: r, h => drops a r (dropV h (a.eval x))
theorem drops_nil {a : Act} {h : Hp} : drops a [] h = h := rfl
theorem drops_cons {a : Act} {h : Hp} {x : Operand} {r : List Operand} : drops a (x :: r) h = drops a r (dropV h (a.eval x)) := rfl
theorem drops_le {a : Act} : ∀ {l : List Operand} {h : Hp} {g : Nat} {o : Obj}, (drops a l h).own g = some o → h.own g = some o := by
  intro l
  induction l with
  | nil => exact fun e => e
  | cons x r ih => exact fun e => dropV_le (ih e)
theorem DDraw.told {P : Program} {F : Fr} {id : Nat} {l : List Oper} {K : Act → Hp → Prop} {a : Act} {h : Hp} (over : List Nat) (roots : List Operand) (hm : P.follows .mixedOrders = true) (hok : okDraw over l = true)
    (ht : TI P F (drops a roots h) l.toArray K over 0 l a h) : DDraw P F id l.toArray K a h := DDraw.walk over _ hm hok (fun _ _ e => drops_le e) ht
theorem own_none_iff {h : Hp} {g g' : Nat} {o : Obj} : ((h.set g' o).own g = none) = (g ≠ g' ∧ g' ≠ g ∧ h.own g = none) := by
  apply propext
  constructor
  · exact own_set_none
  · rintro ⟨h1, _, h3⟩
    rw [Hp.own_set, if_neg h1]; exact h3
theorem notAgg_int {k : IntKind} {n : Int} : notAgg (.int k n) = true := rfl
theorem notAgg_bool {b : Bool} : notAgg (.bool b) = true := rfl
theorem notAgg_ptr {p : Option Addr} : notAgg (.pointer p) = true := rfl
theorem notAgg_slice {p : Option Addr} {n c : Nat} : notAgg (.slice p n c) = true := rfl
theorem notAgg_func {f : Fn} {x y : Array Value} : notAgg (.func f x y) = true := rfl
end Go.SL
set_option linter.unusedSimpArgs false
namespace Go.SL
open Go.RowKit
section
variable {α β : Type} {P : Program} {F : Fr} {S h : Hp}
def dry (P : Program) : Sem α → Option α
  | .pure a => some a
  | .program k => dry P (k P)
  | .mark _ k => dry P k
  | _ => none
theorem dry_rval {v : α} : ∀ (s : Sem α), dry P s = some v → rval P F s S = some v := by
  intro s
  induction s with
  | pure a => exact fun e => e
  | program k ih => exact fun e => ih _ e
  | mark m k ih => exact fun e => ih e
  | _ => intro e; simp [dry] at e
theorem dry_dwp {v : α} {K : α → Hp → Prop} : ∀ (s : Sem α), dry P s = some v → dwp P F s h K = K v h := by
  intro s
  induction s with
  | pure a => intro e; simp only [dry, Option.some.injEq] at e; subst e; rfl
  | program k ih => exact fun e => ih _ e
  | mark m k ih => exact fun e => ih e
  | _ => intro e; simp [dry] at e
def DB (P : Program) (f : α → Sem β) : Option α → Option β
  | some a => dry P (f a)
  | none => none
theorem DB_some {f : α → Sem β} {a : α} : DB P f (some a) = dry P (f a) := rfl
theorem dry_bind' {f : α → Sem β} : ∀ {s : Sem α}, dry P (s >>= f) = DB P f (dry P s) := by
  intro s
  show dry P (s.bind f) = _
  induction s <;> simp only [Sem.bind, dry] <;> first | rfl | simp_all
theorem dry_pure' {a : α} : dry P (pure a) = some a := rfl
theorem dry_program : dry P program = some P := rfl
theorem dry_un {t : TypeId} {d : TypeDesc} (e : P.underlying t = some d) : dry P (underlying t) = some d := by
  simp only [underlying, dry_bind', dry_program, DB_some, e]; rfl
theorem dry_size {t n : Nat} (e : ∀ w, (sizeOf t).run P w = .ok n w) : dry P (sizeOf t) = some n := by
  have e1 := e default
  simp only [sizeOf, typeInfo, dry_bind', dry_program, DB_some] at e1 ⊢
  simp only [program, bind, Sem.bind, Sem.run] at e1
  cases ho : P.info? t with
  | none => rw [ho] at e1; simp [stuck, Sem.bind] at e1
  | some i => rw [ho] at e1; simp only [pure, Sem.bind, Sem.run, Result.ok.injEq, and_true] at e1; subst e1; rfl
theorem dry_agg {t : Nat} {b : Bool} (e : ∀ w, (isAgg t).run P w = .ok b w) : dry P (isAgg t) = some b := by
  have e1 := e default
  simp only [isAgg, underlying, dry_bind', dry_program, DB_some] at e1 ⊢
  simp only [program, bind, Sem.bind, Sem.run] at e1
  cases ho : P.underlying t with
  | none => rw [ho] at e1; simp [stuck, Sem.bind] at e1
  | some d =>
    rw [ho] at e1
    simp only [pure, Sem.bind] at e1
    show DB P _ (some d) = _
    cases d <;> simp only [Sem.run, Result.ok.injEq, and_true] at e1 <;> subst e1 <;> rfl
theorem dry_equalB {d : Nat} {t : TypeId} {a b : Bool} (e : P.underlying t = some .bool) : dry P (Op.equalIn (d + 1) t (.bool a) (.bool b)) = some (a == b) := by
  simp only [Op.equalIn, dry_bind', dry_un e, DB_some]; rfl
theorem dry_equalI {d : Nat} {t : TypeId} {k k' : IntKind} {a b : Int} (e : P.underlying t = some (.int k')) : dry P (Op.equalIn (d + 1) t (.int k a) (.int k b)) = some (a == b) := by
  simp only [Op.equalIn, dry_bind', dry_un e, DB_some, if_true]; rfl
theorem dry_eqlB {t : TypeId} {a b : Bool} (e : P.underlying t = some .bool) : dry P (binOp .eql t (.bool a) (.bool b)) = some (.bool (a == b)) := by
  show dry P (Op.equalIn (9999 + 1) t (.bool a) (.bool b) >>= _) = _
  rw [dry_bind', dry_equalB e]; rfl
theorem dry_neqB {t : TypeId} {a b : Bool} (e : P.underlying t = some .bool) : dry P (binOp .neq t (.bool a) (.bool b)) = some (.bool (!(a == b))) := by
  show dry P (Op.equalIn (9999 + 1) t (.bool a) (.bool b) >>= _) = _
  rw [dry_bind', dry_equalB e]; rfl
/-- '==' field by field. -/
def eqF (P : Program) (d : Nat) (xs ys : Array Value) : List Field → Option Bool
  | [] => some true
  | f :: r => if f.name ≠ "_" then
      match dry P (part f.type xs f.offset), dry P (part f.type ys f.offset) with
      | some a, some b => match dry P (Op.equalIn d f.type a b), eqF P d xs ys r with
        | some x, some y => some (x && y)
        | _, _ => none
      | _, _ => none
    else eqF P d xs ys r
theorem dry_equalS {d : Nat} {t : TypeId} {xs ys : Array Value} {fs : List Field} (e : P.underlying t = some (.struct fs.toArray)) (hp : P.stoodInHeld t = false) {v : Bool} (hv : eqF P d xs ys fs = some v) : dry P (Op.equalIn (d + 1) t (.agg xs) (.agg ys)) = some v := by
  have key : ∀ (fs : List Field) (v : Bool), eqF P d xs ys fs = some v → dry P (do
      let __s ← forIn fs ((none, ()) : Option Bool × Unit) (fun f _ => (do
        if f.name ≠ "_" then
          let b ← Op.equalIn d f.type (← part f.type xs f.offset) (← part f.type ys f.offset)
          if (!b) = true then pure (ForInStep.done (some false, ())) else pure (ForInStep.yield (none, ()))
        else pure (ForInStep.yield (none, ())) : Sem (ForInStep (Option Bool × Unit))))
      match __s.fst with
      | some r => pure r
      | none => pure true) = some v := by
    intro fs
    induction fs with
    | nil => intro v hv; rw [List.forIn_nil, pure_bind]; exact hv
    | cons f r ih =>
      intro v hv
      rw [eqF] at hv
      rw [List.forIn_cons]
      by_cases hn : f.name ≠ "_"
      · rw [if_pos hn] at hv
        cases h1 : dry P (part f.type xs f.offset) with
        | none => rw [h1] at hv; cases hv
        | some x =>
          cases h2 : dry P (part f.type ys f.offset) with
          | none => rw [h1, h2] at hv; cases hv
          | some y =>
            rw [h1, h2] at hv
            simp only at hv
            cases h3 : dry P (Op.equalIn d f.type x y) with
            | none => rw [h3] at hv; cases hv
            | some b =>
              cases h4 : eqF P d xs ys r with
              | none => rw [h3, h4] at hv; cases hv
              | some b' =>
                rw [h3, h4] at hv
                simp only [Option.some.injEq] at hv
                subst hv
                simp only [if_pos hn, bind_assoc, dry_bind', h1, h2, h3, DB_some]
                cases b
                · rfl
                · have := ih b' h4
                  simp only [dry_bind'] at this
                  simpa [dry_bind', DB_some, dry_pure'] using this
      · rw [if_neg hn] at hv
        have := ih v hv
        simp only [if_neg hn, pure_bind]
        exact this
  have := key fs v hv
  simp only [Op.equalIn, dry_bind', dry_un e, DB_some, dry_program, hp, List.forIn_toArray, Bool.false_eq_true, if_false]
  simp only [dry_bind'] at this
  refine Eq.trans ?_ this
  congr 1
  · funext s
    obtain ⟨x, u⟩ := s
    cases x <;> rfl
theorem dry_eqlS {t : TypeId} {xs ys : Array Value} {fs : List Field} (e : P.underlying t = some (.struct fs.toArray)) (hp : P.stoodInHeld t = false) {v : Bool} (hv : eqF P 9999 xs ys fs = some v) : dry P (binOp .eql t (.agg xs) (.agg ys)) = some (.bool v) := by
  show dry P (Op.equalIn (9999 + 1) t (.agg xs) (.agg ys) >>= _) = _
  rw [dry_bind', dry_equalS e hp hv]; rfl
theorem dry_neqS {t : TypeId} {xs ys : Array Value} {fs : List Field} (e : P.underlying t = some (.struct fs.toArray)) (hp : P.stoodInHeld t = false) {v : Bool} (hv : eqF P 9999 xs ys fs = some v) : dry P (binOp .neq t (.agg xs) (.agg ys)) = some (.bool (!v)) := by
  show dry P (Op.equalIn (9999 + 1) t (.agg xs) (.agg ys) >>= _) = _
  rw [dry_bind', dry_equalS e hp hv]; rfl
theorem eqF_int {d : Nat} {xs ys : Array Value} {f : Field} {r : List Field} {k k' : IntKind} {a b : Int} {v : Bool} (hn : (f.name == "_") = false) (hg : ∀ w, (isAgg f.type).run P w = .ok false w) (hu : P.underlying f.type = some (.int k'))
    (hx : xs[f.offset]? = some (.int k a)) (hy : ys[f.offset]? = some (.int k b)) (hv : eqF P (d + 1) xs ys r = some v) : eqF P (d + 1) xs ys (f :: r) = some ((a == b) && v) := by
  have hn' : f.name ≠ "_" := by simpa using hn
  have p1 : dry P (part f.type xs f.offset) = some (.int k a) := by
    simp only [part, dry_bind', dry_agg hg, DB_some, hx, Bool.false_eq_true, if_false]; rfl
  have p2 : dry P (part f.type ys f.offset) = some (.int k b) := by
    simp only [part, dry_bind', dry_agg hg, DB_some, hy, Bool.false_eq_true, if_false]; rfl
  rw [eqF, if_pos hn', p1, p2]
  simp only [dry_equalI hu, hv]
theorem eqF_nil {d : Nat} {xs ys : Array Value} : eqF P d xs ys [] = some true := rfl
end
theorem max2_eq {ts : Array TypeId} {t : TypeId} {k : IntKind} {x y : Int} : Builtin.max_ ts t #[.int k x, .int k y] = pure (.int k (max x y)) := by
  have : Builtin.max_ ts t #[.int k x, .int k y] = pure (.int k (if y > x then y else x)) := by
    simp [Builtin.max_, Builtin.max2]
  rw [this]
  congr 2
  split <;> omega
theorem min2_eq {ts : Array TypeId} {t : TypeId} {k : IntKind} {x y : Int} : Builtin.min_ ts t #[.int k x, .int k y] = pure (.int k (min x y)) := by
  have : Builtin.min_ ts t #[.int k x, .int k y] = pure (.int k (if y < x then y else x)) := by
    simp [Builtin.min_, Builtin.min2]
  rw [this]
  congr 2
  split <;> omega
end Go.SL
namespace Go.SL
theorem quo_eq {t : TypeId} {k : IntKind} {a b : Int} (h : (b == 0) = false) : binOp .quo t (.int k a) (.int k b) = pure (.int k (k.wrap (a.tdiv b))) := by
  have : b ≠ 0 := by simpa using h
  simp [binOp, Op.intDiv, this]
theorem rem_eq {t : TypeId} {k : IntKind} {a b : Int} (h : (b == 0) = false) : binOp .rem t (.int k a) (.int k b) = pure (.int k (a.tmod b)) := by
  have : b ≠ 0 := by simpa using h
  simp [binOp, Op.intDiv, this]
end Go.SL
namespace Go.SL
theorem dry_convI {P : Program} {s d : TypeId} {k k' : IntKind} {n : Int} {u : TypeDesc} (hs : P.underlying s = some u) (hd : P.underlying d = some (.int k')) : dry P (convert s d (.int k n)) = some (.int k' (k'.wrap n)) := by
  simp only [convert, dry_bind', dry_un hs, dry_un hd, DB_some]
  cases u <;> rfl

/-! ### Loops of a few rounds; cells of a row -/
/-- At most so many rounds. -/
def RoundK (P : Program) (F : Fr) (c : Code) (Q : Exit → Act → Hp → Prop) : Nat → Act → Hp → Prop
  | 0, _, _ => False
  | n + 1, a, h => dcode P F c (Then (RoundK P F c Q n) Q) a h
theorem RoundK_succ {P : Program} {F : Fr} {c : Code} {Q : Exit → Act → Hp → Prop} {n : Nat} {a : Act} {h : Hp} : RoundK P F c Q (n + 1) a h = dcode P F c (Then (RoundK P F c Q n) Q) a h := rfl
theorem DLoop.rounds {P : Program} {F : Fr} {c : Code} {Q : Exit → Act → Hp → Prop} {a : Act} {h : Hp} (n : Nat) (h0 : RoundK P F c Q n a h) : DLoop P F c Q a h := by
  intro ro hro w r
  refine wpIn_loop_ghost (fun n a w => ∃ h, RoundK P F c Q n a h ∧ HRel F h w) n ⟨h, h0, r⟩ ?_
  rintro k a w ⟨h, hI, r⟩
  cases k with
  | zero => exact hI.elim
  | succ k =>
    refine wpIn_mono (dcode_sound _ _ _ _ hI ro hro w r) ?_
    rintro e a' w' ⟨h', q, r'⟩
    cases e with
    | normal => exact ⟨k, Nat.lt_succ_self k, h', q, r'⟩
    | _ => exact ⟨h', q, r'⟩
/-- The cells of a row. -/
def readV (ro : Addr → Option Value) (b : Nat) : Nat → Nat → Option (List Value)
  | _, 0 => some []
  | off, n + 1 => match ro ⟨b, off, none⟩ with
    | some v => (readV ro b (off + 1) n).map (v :: ·)
    | none => none
def readVC (ro : Addr → Option Value) (b off n : Nat) : Option Value → Option (List Value)
  | some v => (readV ro b (off + 1) n).map (v :: ·)
  | none => none
theorem readV_zero {ro : Addr → Option Value} {b off : Nat} : readV ro b off 0 = some [] := rfl
theorem readV_succ {ro : Addr → Option Value} {b off n : Nat} : readV ro b off (n + 1) = readVC ro b off n (ro ⟨b, off, none⟩) := by
  unfold readVC
  rw [readV]
theorem readVC_some {ro : Addr → Option Value} {b off n : Nat} {v : Value} : readVC ro b off n (some v) = (readV ro b (off + 1) n).map (v :: ·) := rfl
theorem readV_get {ro : Addr → Option Value} {b : Nat} : ∀ {n off : Nat} {xs : List Value}, readV ro b off n = some xs → ∀ i x, xs[i]? = some x → ro ⟨b, off + i, none⟩ = some x := by
  intro n
  induction n with
  | zero => intro off xs e i x hx; simp only [readV, Option.some.injEq] at e; subst e; simp at hx
  | succ n ih =>
    intro off xs e i x hx
    rw [readV_succ] at e
    unfold readVC at e
    split at e
    · rename_i y hy
      cases hr : readV ro b (off + 1) n with
      | none => rw [hr] at e; cases e
      | some r =>
        rw [hr] at e; simp only [Option.map_some, Option.some.injEq] at e; subst e
        cases i with
        | zero => simp only [List.getElem?_cons_zero, Option.some.injEq] at hx; subst hx; exact hy
        | succ i => simp only [List.getElem?_cons_succ] at hx; have := ih hr i x hx; rwa [Nat.add_assoc, Nat.add_comm 1 i] at this
    · cases e
theorem readV_mono {ro ro' : Addr → Option Value} (hr : ∀ a u, ro a = some u → ro' a = some u) {b : Nat} : ∀ {n off : Nat} {xs : List Value}, readV ro b off n = some xs → readV ro' b off n = some xs := by
  intro n
  induction n with
  | zero => exact fun e => e
  | succ n ih =>
    intro off xs e
    rw [readV_succ] at e ⊢
    unfold readVC at e
    split at e
    · rename_i x hx
      rw [hr _ _ hx, readVC_some]
      cases hh : readV ro b (off + 1) n with
      | none => rw [hh] at e; cases e
      | some r => rw [hh] at e; rw [ih hh]; exact e
    · cases e
end Go.SL
