/-
  A walk over a part of memory, seventh part: contracts of functions that read, loops, lists of integers.
  Conditions: none. Plain theorems and definitions.
-/
import Derived.Test.YtdhdfdaclbfkiaaS6
import Derived.Deep.LoopGhost
import Derived.IntWalk
import Derived.Handy
set_option linter.unusedSimpArgs false
namespace Go.SL
open Go.RowKit
section
variable {P : Program} {F : Fr} {S h : Hp} {f : FuncId} {args : Array Value} {v : Value}
/-- What is kept from the simplifier's eyes. -/
structure Hold (p : Prop) : Prop where
  out : p
/-- The value that is to come back. -/
def EqV (v v' : Value) (_ : Hp) : Prop := v' = v
theorem EqV_app {v v' : Value} : EqV v v' h = (v' = v) := rfl
/-- A function that reads the cells of ro at most, and leaves all that was there. -/
structure Cr (P : Program) (f : FuncId) (args : Array Value) (ro : Addr → Option Value) (v : Value) : Prop where
  out : ∀ w, (∀ a u, ro a = some u → w.cell? a = some u) → Calls P f args w fun e w' => e = .returned v ∧ Below w.heap.size w w'
theorem Cr.call {K : Value → Hp → Prop} (c : Cr P f args (h.cell? F) v) (hk : K v h) : DCall P F f args h K :=
  ⟨fun w r => (c.out w (fun _ _ e => r.cell e)).mono fun _ _ ⟨he, hb⟩ => ⟨v, h, he, hk, r.after hb⟩⟩
theorem Cr.mono {ro ro' : Addr → Option Value} (c : Cr P f args ro v) (hr : ∀ a u, ro a = some u → ro' a = some u) : Cr P f args ro' v :=
  ⟨fun w hw => c.out w fun a u e => hw a u (hr a u e)⟩
theorem CallV.of {K : Value → Hp → Prop} (c : Cr P f args (S.cell? F) v) (hi : P.inits.idxOf? f = none) (hk : K v h) : CallV P F S f args K h :=
  ⟨v, ⟨hi, fun _ i _ hk' => ⟨fun w r => (c.out w (fun _ _ e => r.cell (i.cell e))).mono fun _ _ ⟨he, hb⟩ => ⟨v, _, he, hk', r.after hb⟩⟩⟩, hk⟩
theorem Cr.of {fn : Func} {c : Code} {rs : List ResultVar} {ro : Addr → Option Value} (hf : P.funcs[f]? = some fn) (hb : fn.body = some c) (hr : fn.results.toList = rs)
    (hd : ∀ F : Fr, F.ro = ro → dcode P F c (Post P F rs (EqV v)) { tmps := args ++ Array.replicate (fn.ntmps - args.size) undef, defers := [] } Hp.none_) : Cr P f args ro v := by
  refine ⟨fun w hw => ?_⟩
  let F : Fr := ⟨w, fun _ => False, ro, fun a u e => ⟨hw a u e, fun x => x⟩, true⟩
  refine (calls_of hf hb hr (HRel.start F Hp.none_ (fun _ => rfl)) (hd F rfl)).mono fun e w' hh => ?_
  obtain ⟨v', h', rfl, rfl, r'⟩ := hh
  exact ⟨rfl, r'.below (fun _ x => x)⟩
theorem Hp.cell_ro {a : Addr} {u : Value} (e : F.ro a = some u) : h.cell? F a = some u := by
  unfold Hp.cell?
  rw [e]

/-! ### Loops -/
/-- Behind a round: the loop's state, with a smaller number. -/
def LoopK (I : Nat → Act → Hp → Prop) (k : Nat) (a : Act) (h : Hp) : Prop := ∃ k', k' < k ∧ I k' a h
theorem LoopK.intro {I : Nat → Act → Hp → Prop} {k : Nat} {a : Act} {h : Hp} (k' : Nat) (h1 : k' < k) (h2 : I k' a h) : LoopK I k a h := ⟨k', h1, h2⟩
theorem wpIn_loop_ghost {G : Fence} {m : Nat} {c : Code} {Q : Exit → Act → World → Prop} {a : Act} {w : World} (I : Nat → Act → World → Prop) (n : Nat) (h0 : I n a w)
    (round : ∀ n a w, I n a w → c.wpIn G m P (Exit.then (fun a' w' => ∃ n', n' < n ∧ I n' a' w') Q) a w) : (Code.loop c).wpIn G m P Q a w := by
  intro b k cs hro hb hr
  have key : ∀ n a w, I n a w → ∃ e a' w', Q e a' w' ∧ ArrivesIn (Machine.fenced P G) P (lone (b.atR a (.code c :: .inLoop c :: k)) cs w) b k cs e a' w' := by
    intro n
    induction n using Nat.strongRecOn with
    | _ n ih =>
      intro a w hI
      obtain ⟨e, a1, w1, hq, harr⟩ := round n a w hI b (.inLoop c :: k) cs hro hb hr
      cases e with
      | normal =>
        obtain ⟨n', hlt, hI'⟩ := hq
        obtain ⟨e2, a2, w2, hq2, harr2⟩ := ih n' hlt a1 w1 hI'
        exact ⟨e2, a2, w2, hq2, .of_steps (StepsIn.trans harr (.one (fenced_calm hb hr rfl) stepR_inLoop)) harr2⟩
      | exit id => exact ⟨_, a1, w1, hq, .pass (x := .inLoop c) rfl (fun _ _ => .inl (by simp)) harr⟩
      | goto l => exact ⟨_, a1, w1, hq, .pass (x := .inLoop c) rfl (fun _ _ => .inl (by simp)) harr⟩
      | ret => exact ⟨_, a1, w1, hq, .pass (x := .inLoop c) rfl (fun _ _ => .inl (by simp)) harr⟩
      | panic ch => exact ⟨_, a1, w1, hq, .pass (x := .inLoop c) rfl (fun _ _ => .inl (by simp)) harr⟩
      | outgrown => exact ⟨_, a1, w1, hq, .pass (x := .inLoop c) rfl (fun _ _ => .inl (by simp)) harr⟩
  obtain ⟨e, a', w', hq, harr⟩ := key n a w h0
  exact ⟨e, a', w', hq, .of_steps (.one (fenced_calm hb hr rfl) stepR_loop) harr⟩
theorem DLoop.ind {c : Code} {Q : Exit → Act → Hp → Prop} {a : Act} (I : Nat → Act → Hp → Prop) (n : Nat) (h0 : I n a h) (step : ∀ k a h, I k a h → dcode P F c (Then (LoopK I k) Q) a h) : DLoop P F c Q a h := by
  intro ro hro w r
  refine wpIn_loop_ghost (fun n a w => ∃ h, I n a h ∧ HRel F h w) n ⟨h, h0, r⟩ ?_
  rintro k a w ⟨h, hI, r⟩
  refine wpIn_mono (dcode_sound _ _ _ _ (step k a h hI) ro hro w r) ?_
  rintro e a' w' ⟨h', q, r'⟩
  cases e with
  | normal =>
    obtain ⟨k', h1, h2⟩ := q
    exact ⟨k', h1, h', h2, r'⟩
  | _ => exact ⟨h', q, r'⟩

/-! ### Lists of integers that are read -/
/-- The integers of a row. -/
def readI (ro : Addr → Option Value) (b : Nat) : Nat → Nat → Option (List Int)
  | _, 0 => some []
  | off, n + 1 => match ro ⟨b, off, none⟩ with
    | some (.int .i64 x) => match readI ro b (off + 1) n with
      | some r => some (x :: r)
      | none => none
    | _ => none
def readC (ro : Addr → Option Value) (b off n : Nat) : Option Value → Option (List Int)
  | some (.int .i64 x) => (readI ro b (off + 1) n).map (x :: ·)
  | _ => none
theorem readI_zero {ro : Addr → Option Value} {b off : Nat} : readI ro b off 0 = some [] := rfl
theorem readI_succ {ro : Addr → Option Value} {b off n : Nat} : readI ro b off (n + 1) = readC ro b off n (ro ⟨b, off, none⟩) := by
  unfold readC
  rw [readI]
  split
  · cases readI ro b (off + 1) n <;> rfl
  · rfl
theorem readC_some {ro : Addr → Option Value} {b off n : Nat} {x : Int} : readC ro b off n (some (.int .i64 x)) = (readI ro b (off + 1) n).map (x :: ·) := rfl
theorem readI_len {ro : Addr → Option Value} {b : Nat} : ∀ {n off : Nat} {xs : List Int}, readI ro b off n = some xs → xs.length = n := by
  intro n
  induction n with
  | zero => intro off xs e; simp only [readI, Option.some.injEq] at e; subst e; rfl
  | succ n ih =>
    intro off xs e
    rw [readI_succ] at e
    unfold readC at e
    split at e
    · rename_i x _
      cases hr : readI ro b (off + 1) n with
      | none => rw [hr] at e; cases e
      | some r => rw [hr] at e; simp only [Option.map_some, Option.some.injEq] at e; subst e; simp [ih hr]
    · cases e
theorem readI_get {ro : Addr → Option Value} {b : Nat} : ∀ {n off : Nat} {xs : List Int}, readI ro b off n = some xs → ∀ i x, xs[i]? = some x → ro ⟨b, off + i, none⟩ = some (.int .i64 x) := by
  intro n
  induction n with
  | zero => intro off xs e i x hx; simp only [readI, Option.some.injEq] at e; subst e; simp at hx
  | succ n ih =>
    intro off xs e i x hx
    rw [readI_succ] at e
    unfold readC at e
    split at e
    · rename_i y hy
      cases hr : readI ro b (off + 1) n with
      | none => rw [hr] at e; cases e
      | some r =>
        rw [hr] at e; simp only [Option.map_some, Option.some.injEq] at e; subst e
        cases i with
        | zero => simp only [List.getElem?_cons_zero, Option.some.injEq] at hx; subst hx; exact hy
        | succ i => simp only [List.getElem?_cons_succ] at hx; have := ih hr i x hx; rwa [Nat.add_assoc, Nat.add_comm 1 i] at this
    · cases e
theorem readI_mono {ro ro' : Addr → Option Value} (hr : ∀ a u, ro a = some u → ro' a = some u) {b : Nat} : ∀ {n off : Nat} {xs : List Int}, readI ro b off n = some xs → readI ro' b off n = some xs := by
  intro n
  induction n with
  | zero => exact fun e => e
  | succ n ih =>
    intro off xs e
    rw [readI_succ] at e ⊢
    unfold readC at e
    split at e
    · rename_i x hx
      rw [hr _ _ hx, readC_some]
      cases hh : readI ro b (off + 1) n with
      | none => rw [hh] at e; cases e
      | some r => rw [hh] at e; rw [ih hh]; exact e
    · cases e
/-- Do all lie between two others? -/
def allI (lo hi : Int) : List Int → Bool
  | [] => true
  | x :: r => decide (lo ≤ x) && (decide (x ≤ hi) && allI lo hi r)
theorem allI_nil {lo hi : Int} : allI lo hi [] = true := rfl
theorem allI_cons {lo hi x : Int} {r : List Int} : allI lo hi (x :: r) = (decide (lo ≤ x) && (decide (x ≤ hi) && allI lo hi r)) := rfl
def allO (lo hi : Int) : Option (List Int) → Bool
  | some l => allI lo hi l
  | none => false
theorem allO_some {lo hi : Int} {l : List Int} : allO lo hi (some l) = allI lo hi l := rfl
theorem allI_any (lo hi : Int) : ∀ l : List Int, (!(l.any fun x => decide (x < lo) || decide (hi < x))) = allI lo hi l := by
  intro l
  induction l with
  | nil => rfl
  | cons x r ih =>
    rw [List.any_cons, allI_cons, ← ih, Bool.not_or]
    by_cases h1 : x < lo <;> by_cases h2 : hi < x <;> simp [h1, h2, Int.not_le.2, Int.not_lt.1] <;> omega
/-- Where the first of them is of which something is so; -1 if there is none. -/
def idxI (p : Int → Bool) : List Int → Int → Int
  | [], _ => -1
  | x :: r, i => if p x then i else idxI p r (i + 1)
theorem idxI_ge (p : Int → Bool) : ∀ (l : List Int) (i : Int), 0 ≤ i → decide (0 ≤ idxI p l i) = l.any p := by
  intro l
  induction l with
  | nil => intro i _; rfl
  | cons x r ih =>
    intro i hi
    have := ih (i + 1) (by omega)
    by_cases h : p x = true
    · simp [idxI, h, hi]
    · simp only [List.any_cons, ← this, idxI, h]; simp
end

section
variable {P : Program} {F : Fr} {S h : Hp} {t e s n c : Nat} {a : Addr} {k : IntKind} {i : Int} {K : Value → Hp → Prop}
theorem dwp_ixS (hu : P.underlying t = some (.slice e)) (hs : ∀ w, (sizeOf e).run P w = .ok s w) (h1 : 0 ≤ i) (h2 : i < (n : Int)) :
    dwp P F (Instr.indexAt t (.slice (some a) n c) (.int k i)) h K = K (.pointer (some (a.add (i.toNat * s)))) h := by
  have hz : ∀ K, dwp P F (sizeOf e) h K = K s h := fun K => dwp_size_of hs
  simp only [Instr.indexAt, asIntOf, dwp_bind', dwp_pure', BindK_app, dwp_underlying, hu, OptK_some, h1, h2, and_self, if_true, hz]
theorem dwp_ixA {m : Nat} (hu : P.underlying t = some (.array m e)) (hs : ∀ w, (sizeOf e).run P w = .ok s w) (h1 : 0 ≤ i) (h2 : i < (m : Int)) :
    dwp P F (Instr.indexAt t (.pointer (some a)) (.int k i)) h K = K (.pointer (some (a.add (i.toNat * s)))) h := by
  have hz : ∀ K, dwp P F (sizeOf e) h K = K s h := fun K => dwp_size_of hs
  simp only [Instr.indexAt, asIntOf, Instr.sureAddr, dwp_bind', dwp_pure', BindK_app, dwp_underlying, hu, OptK_some, h1, h2, and_self, if_true, hz]
theorem rval_ixS (hu : P.underlying t = some (.slice e)) (hs : ∀ w, (sizeOf e).run P w = .ok s w) (h1 : 0 ≤ i) (h2 : i < (n : Int)) :
    rval P F (Instr.indexAt t (.slice (some a) n c) (.int k i)) S = some (.pointer (some (a.add (i.toNat * s)))) := by
  simp only [Instr.indexAt, asIntOf, rval_bind', rval_pure', RB_some, rval_un hu, h1, h2, and_self, if_true, rval_size hs]
theorem rval_ixA {m : Nat} (hu : P.underlying t = some (.array m e)) (hs : ∀ w, (sizeOf e).run P w = .ok s w) (h1 : 0 ≤ i) (h2 : i < (m : Int)) :
    rval P F (Instr.indexAt t (.pointer (some a)) (.int k i)) S = some (.pointer (some (a.add (i.toNat * s)))) := by
  simp only [Instr.indexAt, asIntOf, Instr.sureAddr, rval_bind', rval_pure', RB_some, rval_un hu, h1, h2, and_self, if_true, rval_size hs]
end

/-! ### What a region that draws may write -/
theorem Hp.own_drop {h : Hp} {g b : Nat} : (h.drop b).own g = if g = b then none else h.own g := rfl
def dropAt (h : Hp) : Value → Hp
  | .pointer (some ad) => h.drop ad.block
  | _ => h
theorem dropAt_le {h : Hp} {v : Value} {g : Nat} {o : Obj} (e : (dropAt h v).own g = some o) : h.own g = some o := by
  unfold dropAt at e
  split at e
  · rw [Hp.own_drop] at e
    split at e
    · cases e
    · exact e
  · exact e
/-- The blocks at whose addresses, known ahead, a region stores are left out. -/
def wrote (a : Act) : List Oper → Hp → Hp
  | [], h => h
  | o :: r, h => wrote a r (match o.op with | .store _ x _ => dropAt h (a.eval x) | _ => h)
theorem wrote_le {a : Act} : ∀ {l : List Oper} {h : Hp} {g : Nat} {o : Obj}, (wrote a l h).own g = some o → h.own g = some o := by
  intro l
  induction l with
  | nil => exact fun e => e
  | cons x r ih =>
    intro h g o e
    have := ih e
    split at this
    · exact dropAt_le this
    · exact this
theorem wrote_nil {a : Act} {h : Hp} : wrote a [] h = h := rfl
theorem wrote_cons {a : Act} {h : Hp} {o : Oper} {r : List Oper} : wrote a (o :: r) h = wrote a r (match o.op with | .store _ x _ => dropAt h (a.eval x) | _ => h) := rfl
theorem dropAt_some {h : Hp} {ad : Addr} : dropAt h (.pointer (some ad)) = h.drop ad.block := rfl
theorem dropAt_undef {h : Hp} : dropAt h undef = h := rfl
theorem DDraw.auto {P : Program} {F : Fr} {id : Nat} {l : List Oper} {K : Act → Hp → Prop} {a : Act} {h : Hp} (hm : P.follows .mixedOrders = true) (hok : okDraw [] l = true)
    (ht : TI P F (wrote a l h) l.toArray K [] 0 l a h) : DDraw P F id l.toArray K a h := DDraw.walk [] _ hm hok (fun _ _ e => wrote_le e) ht
/-- The same, with the blocks that are written, and the operations that read them, told. -/
def dropV (h : Hp) : Value → Hp
  | .pointer (some ad) => h.drop ad.block
  | .slice (some ad) _ _ => h.drop ad.block
  | _ => h
theorem dropV_ptr {h : Hp} {ad : Addr} : dropV h (.pointer (some ad)) = h.drop ad.block := rfl
theorem dropV_slice {h : Hp} {ad : Addr} {n c : Nat} : dropV h (.slice (some ad) n c) = h.drop ad.block := rfl
theorem dropV_nil {h : Hp} {n c : Nat} : dropV h (.slice none n c) = h := rfl
/-- The block behind a pointer or a slice. -/
def blk : Value → Option Nat
  | .pointer (some a) => some a.block
  | .slice (some a) _ _ => some a.block
  | _ => none
theorem blk_nil {n c : Nat} : blk (.slice none n c) = none := rfl
theorem blk_some {a : Addr} {n c : Nat} : blk (.slice (some a) n c) = some a.block := rfl
theorem blk_ptr {a : Addr} : blk (.pointer (some a)) = some a.block := rfl
theorem dropV_own {h : Hp} {v : Value} {g : Nat} (hb : blk v ≠ some g) : (dropV h v).own g = h.own g := by
  unfold dropV
  unfold blk at hb
  split <;> simp only [Hp.own_drop] at hb ⊢
  · rename_i ad; rw [if_neg (by rintro rfl; exact hb rfl)]
  · rename_i ad _ _; rw [if_neg (by rintro rfl; exact hb rfl)]
theorem dropV_none {h : Hp} {v : Value} {g : Nat} (hb : blk v = some g ∨ h.own g = none) : (dropV h v).own g = none := by
  by_cases h1 : blk v = some g
  · match v, h1 with
    | .pointer (some a), h1 => cases h1; exact if_pos rfl
    | .slice (some a) _ _, h1 => cases h1; exact if_pos rfl
  · rw [dropV_own h1]; exact hb.resolve_left h1
theorem dropV_le {h : Hp} {v : Value} {g : Nat} {o : Obj} (e : (dropV h v).own g = some o) : h.own g = some o := by
  unfold dropV at e
  split at e
  · rw [Hp.own_drop] at e
    split at e
    · cases e
    · exact e
  · rw [Hp.own_drop] at e
    split at e
    · cases e
    · exact e
  · exact e
def drops (a : Act) : List Operand → Hp → Hp
  | [], h => h
  | x :: r, h => drops a r (dropV h (a.eval x))
theorem drops_nil {a : Act} {h : Hp} : drops a [] h = h := rfl
theorem drops_cons {a : Act} {h : Hp} {x : Operand} {r : List Operand} : drops a (x :: r) h = drops a r (dropV h (a.eval x)) := rfl
theorem drops_le {a : Act} : ∀ {l : List Operand} {h : Hp} {g : Nat} {o : Obj}, (drops a l h).own g = some o → h.own g = some o := by
  intro l
  induction l with
  | nil => exact fun e => e
  | cons x r ih => exact fun e => dropV_le (ih e)
theorem DDraw.told {P : Program} {F : Fr} {id : Nat} {l : List Oper} {K : Act → Hp → Prop} {a : Act} {h : Hp} (over : List Nat) (roots : List Operand) (hm : P.follows .mixedOrders = true) (hok : okDraw over l = true)
    (ht : TI P F (drops a roots h) l.toArray K over 0 l a h) : DDraw P F id l.toArray K a h := DDraw.walk over _ hm hok (fun _ _ e => drops_le e) ht
theorem own_none_iff {h : Hp} {g g' : Nat} {o : Obj} : ((h.set g' o).own g = none) = (g ≠ g' ∧ g' ≠ g ∧ h.own g = none) := by
  apply propext
  constructor
  · exact own_set_none
  · rintro ⟨h1, _, h3⟩
    rw [Hp.own_set, if_neg h1]; exact h3
theorem notAgg_int {k : IntKind} {n : Int} : notAgg (.int k n) = true := rfl
theorem notAgg_bool {b : Bool} : notAgg (.bool b) = true := rfl
theorem notAgg_ptr {p : Option Addr} : notAgg (.pointer p) = true := rfl
theorem notAgg_slice {p : Option Addr} {n c : Nat} : notAgg (.slice p n c) = true := rfl
theorem notAgg_func {f : Fn} {x y : Array Value} : notAgg (.func f x y) = true := rfl
end Go.SL
