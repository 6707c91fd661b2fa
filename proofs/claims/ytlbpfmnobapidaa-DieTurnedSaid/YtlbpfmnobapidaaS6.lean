/-
  A walk over a part of memory: what a call owns and what it may read. Conditions: none. Plain theorems and definitions.
-/
import Derived.Test.YtlbpfmnobapidaaS4
import Derived.Orders
import Derived.Barred
set_option linter.unusedVariables false
set_option linter.unusedSimpArgs false
namespace Go.SL
open Go.RowKit

/-- What an operation may do beside others: yield a value or call ('ev'), make a block ('al'), write a block ('wr'), work on blocks without a call ('bi'), read what may be written ('rd'), write what is there already ('ns'), anything ('gen'). -/
inductive Kind where
  | ev | al | wr | bi | rd | ns | gen | rob
  deriving DecidableEq
def kindOf : Op → Kind
  | .alloc _ | .box .. | .buildSlice .. | .makeSlice .. => .al
  | .store .. => .wr
  | .call { callee := .builtin b, .. } => match b with
    | .len | .min | .max => .ev
    | .append => .bi
    | _ => .gen
  | .call _ => .ev
  | .move _ | .assign _ | .pick .. | .build .. | .load .. | .nilCheck _ | .binOp .. | .unOp .. | .convert .. | .makeFunc .. | .slice .. | .fieldAddr .. | .field .. | .indexAddr .. | .index .. | .extract .. => .ev
  | _ => .gen

variable {P : Program} {F : Fr} {S : Hp} {ops : Array Oper}
/-- The same as 'fin', of values alone. -/
def kfin (P : Program) (F : Fr) (K : Value → Hp → Prop) : Next → Hp → Prop
  | .value v, h => K v h
  | .skip, h => K undef h
  | .enter f args, h => DCall P F f args h K
  | .round l f tmps assign body, h => DRound P F l f tmps assign body h K
  | _, _ => False
theorem DRound.mono {l f : Nat} {tmps : Array Value} {assign body : Code} {h : Hp} {K K' : Value → Hp → Prop} (hk : ∀ v h, K v h → K' v h) (hd : DRound P F l f tmps assign body h K) : DRound P F l f tmps assign body h K' :=
  fun w r => (hd w r).mono fun _ _ ⟨v, h', he, hh, rr⟩ => ⟨v, h', he, hk _ _ hh, rr⟩
def vop (P : Program) (F : Fr) (s : Sem Next) (h : Hp) (K : Value → Hp → Prop) : Prop := dwp P F s h (kfin P F K)
theorem dop_vop {o : Oper} {a : Act} {h : Hp} {K : Act → Hp → Prop} : dop P F o a h K = vop P F (execOp a.eval o) h (fun v h' => K (a.put o.dst v) h') := by
  unfold dop vop
  have e : fin P F o a K = kfin P F (fun v h' => K (a.put o.dst v) h') := by
    funext n h'
    cases n <;> rfl
  rw [e]
theorem DCall.mono {f : FuncId} {args : Array Value} {h : Hp} {K K' : Value → Hp → Prop} (hk : ∀ v h, K v h → K' v h) (hd : DCall P F f args h K) : DCall P F f args h K' :=
  ⟨fun w r => (hd.out w r).mono fun _ _ ⟨v, h', he, hh, rr⟩ => ⟨v, h', he, hk _ _ hh, rr⟩⟩
theorem vop_mono {s : Sem Next} {h : Hp} {K K' : Value → Hp → Prop} (hk : ∀ v h, K v h → K' v h) (hd : vop P F s h K) : vop P F s h K' := by
  refine dwp_mono (fun n h hn => ?_) _ _ hd
  cases n <;> simp only [kfin] at hn ⊢
  case value => exact hk _ _ hn
  case skip => exact hk _ _ hn
  case enter f args => exact hn.mono hk
  case round => exact hn.mono hk

/-- What stays while the region runs: S is owned. -/
structure Inv (F : Fr) (S : Hp) (h : Hp) : Prop where
  keep : ∀ g o, S.own g = some o → h.own g = some o
  fin : ∃ N, ∀ g, N ≤ g → h.own g = none
  mine : ∀ g o, h.own g = some o → F.w0.heap.size ≤ g ∨ F.M g
/-- There is a world in which so much is owned. -/
theorem Inv.world {h : Hp} (i : Inv F S h) : ∃ w, HRel F h w := by
  obtain ⟨N, hN⟩ := i.fin
  refine ⟨{ F.w0 with heap := Array.ofFn (n := max N F.w0.heap.size) fun g => match h.own g with | some o => o | none => (F.w0.heap[g.1]?).getD default }, fun g o e => ?_, ?_, rfl, rfl, rfl, fun b hb hM => ?_, i.mine⟩
  · have hg : g < N := by
      rcases Nat.lt_or_ge g N with h1 | h1
      · exact h1
      · rw [hN g h1] at e; cases e
    have hlt : g < max N F.w0.heap.size := by omega
    simp only [Array.getElem?_ofFn, hlt, dif_pos, e]
  · simp only [Array.size_ofFn]; omega
  · have hlt : b < max N F.w0.heap.size := by omega
    have hn : h.own b = none := by
      cases e : h.own b with
      | none => rfl
      | some o => rcases i.mine b o e with h1 | h1 <;> first | omega | exact absurd h1 hM
    simp only [Array.getElem?_ofFn, hlt, dif_pos, hn]
    rw [Array.getElem?_eq_getElem hb]
    rfl
theorem Inv.fresh {h : Hp} (i : Inv F S h) (B : Nat) : ∃ g, B ≤ g ∧ h.own g = none := by
  obtain ⟨N, hN⟩ := i.fin
  exact ⟨max B N, by omega, hN _ (by omega)⟩
theorem Inv.set {h : Hp} (i : Inv F S h) {g : Nat} {o : Obj} (hg : S.own g = none) (hm : F.w0.heap.size ≤ g ∨ F.M g) : Inv F S (h.set g o) := by
  refine ⟨fun k o' e => ?_, ?_, fun k o' e => ?_⟩
  · have hne : k ≠ g := fun he => by subst he; rw [hg] at e; cases e
    rw [Hp.own_set, if_neg hne]; exact i.keep k o' e
  · obtain ⟨N, hN⟩ := i.fin
    refine ⟨max N (g + 1), fun k hk => ?_⟩
    rw [Hp.own_set, if_neg (by omega)]; exact hN k (by omega)
  · rw [Hp.own_set] at e
    split at e
    · rename_i hk; subst hk; exact hm
    · exact i.mine k o' e
theorem Inv.none {h : Hp} (i : Inv F S h) {g : Nat} (hg : h.own g = none) : S.own g = none := by
  cases e : S.own g with
  | none => rfl
  | some o => rw [i.keep g o e] at hg; cases hg
theorem Inv.cell {h : Hp} (i : Inv F S h) {a : Addr} {v : Value} (e : S.cell? F a = some v) : h.cell? F a = some v := by
  unfold Hp.cell? at e ⊢
  cases hro : F.ro a with
  | some u => rw [hro] at e; exact e
  | none =>
    rw [hro] at e
    cases ho : S.own a.block with
    | none => rw [ho] at e; cases e
    | some o => rw [ho] at e; rw [i.keep _ _ ho]; exact e
theorem Inv.rval {α : Type} {h : Hp} (i : Inv F S h) {a : α} : ∀ (s : Sem α), SL.rval P F s S = some a → SL.rval P F s h = some a := by
  intro s
  induction s with
  | pure b => exact fun e => e
  | load m p k ih =>
    intro e
    simp only [SL.rval] at e ⊢
    cases hc : S.cell? F p with
    | none => rw [hc] at e; cases e
    | some v => rw [hc] at e; rw [i.cell hc]; exact ih v e
  | program k ih => exact fun e => ih _ e
  | mark m k ih => exact fun e => ih e
  | _ => intro e; simp [SL.rval] at e

/-- A call that comes back with the same value wherever it stands. -/
structure CV (P : Program) (F : Fr) (S : Hp) (f : FuncId) (args : Array Value) (v : Value) : Prop where
  hi : P.inits.idxOf? f = none
  call : ∀ h, Inv F S h → ∀ K : Value → Hp → Prop, K v h → DCall P F f args h K
/-- Two contracts on one call speak of one end. -/
theorem calls_agree {f : FuncId} {args : Array Value} {w : World} {R R' : Value → World → Prop}
    (h : Calls P f args w fun | .returned v, w' => R v w' | _, _ => False) (h' : Calls P f args w fun | .returned v, w' => R' v w' | _, _ => False) (hi : P.inits.idxOf? f = none) :
    ∃ v w', R v w' ∧ R' v w' := by
  obtain ⟨n, v, w1, e1, r1⟩ := h.done hi
  obtain ⟨m, v', w2, e2, r2⟩ := h'.done hi
  have a := runN_ended e1 m
  have b := runN_ended e2 n
  rw [Nat.add_comm, a] at b
  injection b with ho hw
  injection ho with hv
  subst hv hw
  exact ⟨_, _, r1, r2⟩
theorem CV.one {h : Hp} {f : FuncId} {args : Array Value} {v v' : Value} (i : Inv F S h) (c : CV P F S f args v) (c' : CV P F S f args v') : v = v' := by
  obtain ⟨w, r⟩ := i.world
  have h1 := (c.call h i (fun u _ => u = v) rfl).out w r
  have h2 := (c'.call h i (fun u _ => u = v') rfl).out w r
  obtain ⟨u, w', rfl, rfl⟩ := calls_agree (R := fun u _ => u = v) (R' := fun u _ => u = v') (h1.mono fun e w' ⟨u, h', he, hu, _⟩ => by subst he; exact hu) (h2.mono fun e w' ⟨u, h', he, hu, _⟩ => by subst he; exact hu) c.hi
  rfl
def EvK (P : Program) (F : Fr) (S : Hp) (K : Value → Hp → Prop) (h : Hp) : Option Next → Prop
  | some (.value v) => K v h
  | some .skip => K undef h
  | some (.enter f args) => ∃ v, CV P F S f args v ∧ K v h
  | _ => False
/-- A block is made of ob; the value put is its slice or its address. -/
def AL (P : Program) (F : Fr) (s : Sem Next) (ob : Obj) (v : Nat → Value) : Prop := ∀ h (K : Value → Hp → Prop), vop P F s h K ↔ NewK F ob (fun g h' => K (v g) h') h
/-- What is not there cannot be written; and nothing else is done. -/
def WB (P : Program) (F : Fr) (s : Sem Next) (b : Nat) (ob ob' : Obj) : Prop :=
  (∀ h, h.own b = none → ∀ K : Value → Hp → Prop, ¬ vop P F s h K) ∧ ∀ h, h.own b = some ob → ∀ K : Value → Hp → Prop, vop P F s h K → ∃ v, K v (h.set b ob')
def WR (P : Program) (F : Fr) (s : Sem Next) (b : Nat) (ob ob' : Obj) : Prop := ∀ h, h.own b = some ob → ∀ K : Value → Hp → Prop, (∀ v, K v (h.set b ob')) → vop P F s h K

/-- The end of an operation that calls nothing. -/
def bfin (K : Value → Hp → Prop) : Next → Hp → Prop
  | .value v, h => K v h
  | _, _ => False
theorem bfin_mono {s : Sem Next} {h : Hp} {K K' : Value → Hp → Prop} (hk : ∀ v h, K v h → K' v h) (hs : dwp P F s h (bfin K)) : dwp P F s h (bfin K') := by
  refine dwp_mono (fun n h hn => ?_) _ _ hs
  cases n <;> simp only [bfin] at hn ⊢
  exact hk _ _ hn
theorem bfin_out {s : Sem Next} {h : Hp} {K : Value → Hp → Prop} (hi : Inv F S h) (hs : dwp P F s h (bfin K)) : ∃ v h', K v h' := by
  obtain ⟨w, r⟩ := hi.world
  obtain ⟨n, w', h', _, hq, _⟩ := dwp_run s h w hs r
  cases n <;> simp only [bfin] at hq
  exact ⟨_, _, hq⟩
theorem set_swap {h : Hp} {g g' : Nat} {o o' : Obj} (hne : g ≠ g') : (h.set g o).set g' o' = (h.set g' o').set g o := by
  unfold Hp.set
  congr 1
  funext k
  by_cases e1 : k = g <;> by_cases e2 : k = g' <;> simp_all
theorem cell_set {h : Hp} {g : Nat} {ob : Obj} {a : Addr} {v : Value} (hg : h.own g = none) (e : h.cell? F a = some v) : (h.set g ob).cell? F a = some v := by
  unfold Hp.cell? at e ⊢
  cases hro : F.ro a with
  | some u => rw [hro] at e; exact e
  | none =>
    rw [hro] at e
    have hne : a.block ≠ g := by
      rintro rfl
      rw [hg] at e
      cases e
    simp only [Hp.own_set, if_neg hne]
    exact e
/-- A block that is made beside is left alone. -/
theorem dwp_frame {α : Type} {g : Nat} {ob : Obj} (hgs : F.w0.heap.size ≤ g) : ∀ (s : Sem α) (h : Hp) (Q : α → Hp → Prop), dwp P F s h Q → h.own g = none →
    dwp P F s (h.set g ob) (fun a h3 => ∃ h1, h1.own g = none ∧ h3 = h1.set g ob ∧ Q a h1) := by
  intro s
  induction s with
  | pure a => exact fun h Q hd hg => ⟨h, hg, rfl, hd⟩
  | load m p k ih =>
    intro h Q hd hg
    simp only [dwp] at hd ⊢
    cases hc : h.cell? F p with
    | none => rw [hc] at hd; exact hd.elim
    | some v => rw [hc] at hd; rw [cell_set hg hc]; exact ih v h Q hd hg
  | store m p v k ih =>
    intro h Q hd hg
    simp only [dwp] at hd ⊢
    cases ho : h.own p.block with
    | none => rw [ho] at hd; exact hd.elim
    | some o =>
      have hne : p.block ≠ g := by rintro he; rw [he, hg] at ho; cases ho
      rw [ho] at hd
      cases o <;> simp only at hd
      simp only [Hp.own_set, if_neg hne, ho]
      obtain ⟨h1, h2, h3, h4, h5⟩ := hd
      refine ⟨h1, h2, h3, h4, ?_⟩
      rw [set_swap (Ne.symm hne)]
      exact ih _ Q h5 (by rw [Hp.own_set, if_neg (Ne.symm hne)]; exact hg)
  | new o k ih =>
    intro h Q hd hg
    simp only [dwp] at hd ⊢
    intro g' h1 h2
    obtain ⟨n1, n2, n3⟩ : g' ≠ g ∧ g ≠ g' ∧ h.own g' = none := by
      simp only [Hp.own_set] at h2
      split at h2
      · cases h2
      · rename_i hn; exact ⟨hn, Ne.symm hn, h2⟩
    rw [set_swap n2]
    exact ih g' _ Q (hd g' h1 n3) (by rw [Hp.own_set, if_neg n2]; exact hg)
  | shape r k ih =>
    intro h Q hd hg
    simp only [dwp] at hd ⊢
    by_cases hr : r = g
    · subst hr
      rw [hg] at hd
      simp only [Hp.own_set, if_true]
      cases ob <;> exact ih _ _ _ (hd _) hg
    · simp only [Hp.own_set, if_neg hr]
      cases ho : h.own r with
      | none => rw [ho] at hd; exact fun s => ih _ _ _ (hd s) hg
      | some o => rw [ho] at hd; cases o <;> exact ih _ _ _ hd hg
  | freeze a n k ih => exact fun h Q hd hg => (hd : False).elim
  | frozen a k ih => exact fun h Q hd hg b => ih b h Q (hd b) hg
  | getObj r k ih =>
    intro h Q hd hg
    simp only [dwp] at hd ⊢
    by_cases hr : r = g
    · subst hr; rw [hg] at hd; exact hd.elim
    · simp only [Hp.own_set, if_neg hr]
      cases ho : h.own r with
      | none => rw [ho] at hd; exact hd.elim
      | some o => rw [ho] at hd; cases o <;> first | exact (hd : False).elim | exact ih _ h Q hd hg
  | setObj r o k ih =>
    intro h Q hd hg
    simp only [dwp] at hd ⊢
    by_cases hr : r = g
    · subst hr; rw [hg] at hd; exact hd.elim
    · simp only [Hp.own_set, if_neg hr]
      cases ho : h.own r with
      | none => rw [ho] at hd; exact hd.elim
      | some o' =>
        rw [ho] at hd
        cases o' <;> first | exact (hd : False).elim | (simp only at hd ⊢; rw [set_swap (Ne.symm hr)]; exact ih _ Q hd (by rw [Hp.own_set, if_neg (Ne.symm hr)]; exact hg))
  | choose q k ih =>
    intro h Q hd hg
    simp only [dwp] at hd ⊢
    split
    · rename_i hq; simp only [hq, if_true] at hd; exact ih _ _ _ hd hg
    · rename_i hq; simp only [hq] at hd; exact fun n => ih _ _ _ (hd n) hg
  | sys c k ih => exact fun h Q hd hg => (hd : False).elim
  | program k ih => exact fun h Q hd hg => ih _ h Q hd hg
  | mark m k ih => exact fun h Q hd hg => ih h Q hd hg
  | halt x => exact fun h Q hd hg => (hd : False).elim

theorem rval_set {α : Type} {g : Nat} {ob : Obj} {h : Hp} (hg : h.own g = none) {n : α} : ∀ (s : Sem α), rval P F s h = some n → rval P F s (h.set g ob) = some n := by
  intro s
  induction s with
  | pure a => exact fun e => e
  | load m p k ih =>
    intro e
    simp only [rval] at e ⊢
    cases hc : h.cell? F p with
    | none => rw [hc] at e; cases e
    | some v => rw [hc] at e; rw [cell_set hg hc]; exact ih v e
  | program k ih => exact fun e => ih _ e
  | mark m k ih => exact fun e => ih e
  | _ => intro e; simp [rval] at e
theorem rval_unset {α : Type} {ob : Obj} {h : Hp} (hi : Inv F S h) : ∀ (s : Sem α), (∀ g, F.w0.heap.size ≤ g → h.own g = none → ∃ n, rval P F s (h.set g ob) = some n) → ∃ n, rval P F s h = some n := by
  intro s
  induction s with
  | pure a => exact fun _ => ⟨a, rfl⟩
  | load m p k ih =>
    intro hh
    simp only [rval] at hh ⊢
    cases hc : h.cell? F p with
    | none =>
      obtain ⟨g, h1, h2⟩ := hi.fresh (max F.w0.heap.size (p.block + 1))
      obtain ⟨n, hn⟩ := hh g (by omega) h2
      have : (h.set g ob).cell? F p = none := by
        unfold Hp.cell? at hc ⊢
        simp only [Hp.own_set, if_neg (show p.block ≠ g by omega)]
        exact hc
      rw [this] at hn
      cases hn
    | some v =>
      refine ih v fun g h1 h2 => ?_
      obtain ⟨n, hn⟩ := hh g h1 h2
      rw [cell_set h2 hc] at hn
      exact ⟨n, hn⟩
  | program k ih => exact fun hh => ih _ hh
  | mark m k ih => exact fun hh => ih hh
  | _ => intro hh; obtain ⟨g, h1, h2⟩ := hi.fresh F.w0.heap.size; obtain ⟨n, hn⟩ := hh g h1 h2; simp [rval] at hn

/-- What an operation is that is told apart. -/
def overKind : Op → Kind
  | .store .. => .ns
  | .call { callee := .value (.func _), .. } => .rob
  | .call _ => .gen
  | _ => .rd
theorem DCall.part {f : FuncId} {args : Array Value} {h : Hp} {K : Value → Hp → Prop} (hd : DCall P F f args h (fun v h' => ∃ h2, (∀ g o, h2.own g = some o → h'.own g = some o) ∧ K v h2)) : DCall P F f args h K := by
  refine ⟨fun w r => ?_⟩
  refine (hd.out w r).mono fun e w' ⟨v, h', he, ⟨h2, hk, hv⟩, r'⟩ => ⟨v, h2, he, hv, ?_⟩
  exact ⟨fun g o e => r'.own g o (hk g o e), r'.size, r'.os, r'.tape, r'.output, r'.frame, fun g o e => r'.mine g o (hk g o e)⟩
theorem DCall.some_end {f : FuncId} {args : Array Value} {h : Hp} {K : Value → Hp → Prop} (hi : Inv F S h) (hd : DCall P F f args h K) : ∃ v h', K v h' := by
  obtain ⟨w, r⟩ := hi.world
  obtain ⟨e, w', fr, ⟨v, h', _, hk, _⟩, _⟩ := hd.out w r #[].toList
  exact ⟨v, h', hk⟩
/-- A call that can stand in any greater heap: what else is there stays. -/
def RobK (P : Program) (F : Fr) (S : Hp) (h : Hp) (f : FuncId) (args : Array Value) (K : Value → Hp → Prop) : Prop :=
  ∀ h1, (∀ g o, h.own g = some o → h1.own g = some o) → Inv F S h1 → DCall P F f args h1 (fun v h' => ∃ h2, Inv F S h2 ∧ K v h2 ∧ (∀ g o, h2.own g = some o → h'.own g = some o) ∧ ∀ g o, h1.own g = some o → h.own g = none → h'.own g = some o ∧ h2.own g = none)
theorem RobK.mono {h : Hp} {f : FuncId} {args : Array Value} {K K' : Value → Hp → Prop} (hk : ∀ v h, Inv F S h → K v h → K' v h) (hr : RobK P F S h f args K) : RobK P F S h f args K' :=
  fun h1 hs hi => (hr h1 hs hi).mono fun v h' ⟨h2, q1, q2, q3⟩ => ⟨h2, q1, hk v h2 q1 q2, q3⟩
theorem RobK.here {h : Hp} {f : FuncId} {args : Array Value} {K : Value → Hp → Prop} (hi : Inv F S h) (hr : RobK P F S h f args K) : DCall P F f args h (fun v h' => Inv F S h' ∧ K v h') :=
  DCall.part ((hr h (fun _ _ e => e) hi).mono fun v h' ⟨h2, q1, q2, q3, _⟩ => ⟨h2, q3, q1, q2⟩)
/-- Another block stands beside it. -/
theorem RobK.beside {h : Hp} {f : FuncId} {args : Array Value} {K K' : Value → Hp → Prop} {g : Nat} {ob : Obj} (hg : F.w0.heap.size ≤ g) (hn : h.own g = none) (hr : RobK P F S h f args K) (hk : ∀ v h2, Inv F S h2 → h2.own g = none → K v h2 → K' v (h2.set g ob)) : RobK P F S (h.set g ob) f args K' := by
  intro h1 hs hi
  have hs2 : ∀ b o, h.own b = some o → h1.own b = some o := fun b o e => hs b o (by rw [Hp.own_set, if_neg (by rintro rfl; rw [hn] at e; cases e)]; exact e)
  have hgo := hs g ob (by rw [Hp.own_set, if_pos rfl])
  refine (hr h1 hs2 hi).mono fun v h' ⟨h2, q1, q2, q3, q4⟩ => ?_
  obtain ⟨e1, e2⟩ := q4 g ob hgo hn
  refine ⟨h2.set g ob, q1.set (q1.none e2) (.inl hg), hk v h2 q1 e2 q2, fun b o e => ?_, fun b o e1' e2' => ?_⟩
  · rw [Hp.own_set] at e
    split at e
    · rename_i hb; subst hb; cases e; exact e1
    · exact q3 b o e
  · rw [Hp.own_set] at e2'
    split at e2'
    · cases e2'
    · rename_i hb
      obtain ⟨r1, r2⟩ := q4 b o e1' e2'
      exact ⟨r1, by rw [Hp.own_set, if_neg hb]; exact r2⟩
/-- One operation, in the order of the text. -/
def StK (P : Program) (F : Fr) (S : Hp) (k : Kind) (s : Sem Next) (h : Hp) (K : Value → Hp → Prop) : Prop :=
  match k with
  | .ev => EvK P F S K h (rval P F s S)
  | .al => ∃ ob v, AL P F s ob v ∧ NewK F ob (fun g h' => K (v g) h') h
  | .wr => ∃ b ob ob', h.own b = some ob ∧ (WR P F s b ob ob' ∧ WB P F s b ob ob') ∧ S.own b = none ∧ ∀ v, K v (h.set b ob')
  | .bi => Inv F S h → dwp P F s h (bfin fun v h' => Inv F S h' ∧ K v h')
  | .rd => ∃ v, rval P F s h = some (.value v) ∧ K v h
  | .ns => (∀ h', Inv F S h' → ∀ K' : Value → Hp → Prop, K' undef h' → vop P F s h' K') ∧ K undef h
  | .gen => Inv F S h → vop P F s h (fun v h' => Inv F S h' ∧ K v h')
  | .rob => Inv F S h → ∃ f args, rval P F s S = some (.enter f args) ∧ RobK P F S h f args K
def St (P : Program) (F : Fr) (S : Hp) (ops : Array Oper) (p : Kind × Oper) (a : Act) (h : Hp) (K : Act → Hp → Prop) : Prop :=
  if Region.wanted p.2 (yielded ops a.tmps) = true then StK P F S p.1 (execOp a.eval p.2) h (fun v h' => K (a.put p.2.dst v) h') else K (a.put p.2.dst undef) h

theorem EvK.mono {h h' : Hp} {K K' : Value → Hp → Prop} {n : Option Next} (hk : ∀ v, K v h → K' v h') (hs : EvK P F S K h n) : EvK P F S K' h' n := by
  cases n with
  | none => exact hs
  | some n =>
    cases n <;> simp only [EvK] at *
    case value => exact hk _ hs
    case skip => exact hk _ hs
    case enter => obtain ⟨v, h1, h2⟩ := hs; exact ⟨v, h1, hk _ h2⟩
theorem StK.mono {k : Kind} {s : Sem Next} {h : Hp} {K K' : Value → Hp → Prop} (hi : Inv F S h) (hk : ∀ v h, Inv F S h → K v h → K' v h) (hs : StK P F S k s h K) : StK P F S k s h K' := by
  cases k <;> simp only [StK] at *
  · exact hs.mono (fun v hv => hk v h hi hv)
  · obtain ⟨ob, v, h1, h2⟩ := hs; exact ⟨ob, v, h1, fun g h3 h4 => hk _ _ (hi.set (hi.none h4) (.inl h3)) (h2 g h3 h4)⟩
  · obtain ⟨b, ob, ob', h1, h2, h3, h4⟩ := hs; exact ⟨b, ob, ob', h1, h2, h3, fun v => hk _ _ (hi.set h3 (hi.mine _ _ h1)) (h4 v)⟩
  · exact fun _ => bfin_mono (fun a' h' hh => ⟨hh.1, hk _ _ hh.1 hh.2⟩) (hs hi)
  · obtain ⟨v, h1, h2⟩ := hs; exact ⟨v, h1, hk _ _ hi h2⟩
  · exact ⟨hs.1, hk _ _ hi hs.2⟩
  · exact fun _ => vop_mono (fun a' h' hh => ⟨hh.1, hk _ _ hh.1 hh.2⟩) (hs hi)
  · exact fun hi => (hs hi).imp fun f hh => hh.imp fun args hh => ⟨hh.1, hh.2.mono fun v h hi' hv => hk v h hi' hv⟩
theorem St.mono {p : Kind × Oper} {a : Act} {h : Hp} {K K' : Act → Hp → Prop} (hi : Inv F S h) (hk : ∀ v h, Inv F S h → K (a.put p.2.dst v) h → K' (a.put p.2.dst v) h) (hs : St P F S ops p a h K) : St P F S ops p a h K' := by
  unfold St at *
  split
  · rename_i hw; simp only [hw, if_true] at hs; exact hs.mono hi (fun v h hi' hh => hk v h hi' hh)
  · rename_i hw; simp only [hw] at hs; exact hk _ _ hi hs
theorem StK.vop {k : Kind} {s : Sem Next} {h : Hp} {K : Value → Hp → Prop} (hi : Inv F S h) (hs : StK P F S k s h K) : vop P F s h (fun v h' => Inv F S h' ∧ K v h') := by
  cases k <;> simp only [StK] at hs
  · cases e : rval P F s S with
    | none => rw [e] at hs; exact hs.elim
    | some n =>
      rw [e] at hs
      refine dwp_rval s (hi.rval s e) ?_
      cases n <;> simp only [EvK] at hs
      case value => exact ⟨hi, hs⟩
      case skip => exact ⟨hi, hs⟩
      case enter => obtain ⟨v, h1, h2⟩ := hs; exact h1.call h hi _ ⟨hi, h2⟩
  · obtain ⟨ob, v, h1, h2⟩ := hs; exact (h1 h _).2 (fun g h3 h4 => ⟨hi.set (hi.none h4) (.inl h3), h2 g h3 h4⟩)
  · obtain ⟨b, ob, ob', h1, h2, h3, h4⟩ := hs; exact h2.1 h h1 _ (fun v => ⟨hi.set h3 (hi.mine _ _ h1), h4 v⟩)
  · refine dwp_mono (fun n h hn => ?_) _ _ (hs hi)
    cases n <;> simp only [bfin] at hn
    exact hn
  · obtain ⟨v, h1, h2⟩ := hs; exact dwp_rval s h1 ⟨hi, h2⟩
  · exact hs.1 h hi _ ⟨hi, hs.2⟩
  · exact hs hi
  · obtain ⟨f, args, e, hr⟩ := hs hi
    exact dwp_rval s (hi.rval s e) (hr.here hi)

def noSel (o : Oper) : Prop := ∀ cs b, o.op ≠ .select cs b
/-- Whether another's value already lies in its slot makes no difference. -/
theorem St_put {k : Oper} {p : Kind × Oper} {a : Act} {h : Hp} {K : Act → Hp → Prop} {u : Value} (hs : noSel p.2) (h1 : ∀ d, k.dst = some d → d ∉ p.2.looksAt ops) (h2 : ∀ d, k.dst = some d → p.2.dst ≠ some d) :
    St P F S ops p (a.put k.dst u) h K = St P F S ops p a h (fun a' h' => K (a'.put k.dst u) h') := by
  unfold St
  rw [wanted_put p.2 a k.dst u h1, execOp_put p.2 hs a k.dst u h1]
  have e : ∀ v, (a.put k.dst u).put p.2.dst v = (a.put p.2.dst v).put k.dst u := fun v => Act.put_comm a u v h2
  simp only [e]

/-- May an operation of one kind come up ahead of one of another kind that stands before it? -/
def okKinds : Kind → Kind → Bool
  | .ev, _ => true
  | .ns, _ => true
  | .gen, _ => false
  | .rob, .ev | .rob, .al => true
  | .rob, _ => false
  | _, .ns => true
  | .al, .ev | .al, .al | .al, .rd | .al, .wr => true
  | .bi, .ev | .bi, .al | .wr, .ev => true
  | .rd, .ev | .rd, .al | .rd, .rd => true
  | _, _ => false

theorem NewK_swap {ob ob' : Obj} {h : Hp} {K : Nat → Nat → Hp → Prop} (hh : ∀ g, F.w0.heap.size ≤ g → h.own g = none → NewK F ob' (fun g' h' => K g g' h') (h.set g ob)) :
    ∀ g', F.w0.heap.size ≤ g' → h.own g' = none → NewK F ob (fun g h' => K g g' h') (h.set g' ob') := by
  intro g' h1 h2 g h3 h4
  obtain ⟨hne, hne', h5⟩ := (show g ≠ g' ∧ g' ≠ g ∧ h.own g = none from own_set_none h4)
  have h6 : (h.set g ob).own g' = none := by rw [Hp.own_set, if_neg hne']; exact h2
  have := hh g h3 h5 g' h1 h6
  have e : (h.set g ob).set g' ob' = (h.set g' ob').set g ob := by
    unfold Hp.set
    congr 1
    funext k
    by_cases e1 : k = g <;> by_cases e2 : k = g' <;> simp_all
  rw [e] at this
  exact this

/-- Two operations that do not wait for each other. -/
theorem St_comm {k o : Kind × Oper} {a : Act} {h : Hp} {K : Act → Hp → Prop} (hi : Inv F S h) (hsk : noSel k.2) (hso : noSel o.2) (hap : k.2.apart ops o.2 = true) (hok : okKinds k.1 o.1 = true)
    (hs : St P F S ops k a h (fun a1 h1 => St P F S ops o a1 h1 K)) : St P F S ops o a h (fun a2 h2 => St P F S ops k a2 h2 K) := by
  obtain ⟨h1, h2, h3⟩ := Oper.apart_spec hap
  have hw : ∀ u, Region.wanted k.2 (yielded ops (a.put o.2.dst u).tmps) = Region.wanted k.2 (yielded ops a.tmps) := fun u => wanted_put k.2 a o.2.dst u h3
  have he : ∀ u, execOp (a.put o.2.dst u).eval k.2 = execOp a.eval k.2 := fun u => execOp_put k.2 hsk a o.2.dst u h3
  by_cases hwk : Region.wanted k.2 (yielded ops a.tmps) = true
  · have hs' : StK P F S k.1 (execOp a.eval k.2) h (fun v h' => St P F S ops o a h' (fun a2 h2 => K (a2.put k.2.dst v) h2)) := by
      unfold St at hs
      rw [if_pos hwk] at hs
      refine hs.mono hi (fun v h' _ hh => ?_)
      rw [← St_put (P := P) (F := F) (S := S) (ops := ops) (k := k.2) (p := o) (a := a) (u := v) hso h1 h2]
      exact hh
    by_cases hns : o.1 = .ns ∧ Region.wanted o.2 (yielded ops a.tmps) = true
    · obtain ⟨ho, hwo⟩ := hns
      have hk2 : StK P F S k.1 (execOp a.eval k.2) h (fun v h' => K ((a.put o.2.dst undef).put k.2.dst v) h') := by
        refine hs'.mono hi (fun v h' _ hh => ?_)
        unfold St at hh
        rw [if_pos hwo, ho] at hh
        exact hh.2
      have e1 : ∀ h', Inv F S h' → ∀ K' : Value → Hp → Prop, K' undef h' → vop P F (execOp a.eval o.2) h' K' := by
        have hs2 : StK P F S k.1 (execOp a.eval k.2) h (fun _ _ => ∀ h', Inv F S h' → ∀ K' : Value → Hp → Prop, K' undef h' → vop P F (execOp a.eval o.2) h' K') := by
          refine hs'.mono hi (fun v h' _ hh => ?_)
          unfold St at hh
          rw [if_pos hwo, ho] at hh
          exact hh.1
        cases hk : k.1 with
        | ev =>
          rw [hk] at hs2
          simp only [StK] at hs2
          cases e : rval P F (execOp a.eval k.2) S with
          | none => rw [e] at hs2; exact hs2.elim
          | some n =>
            rw [e] at hs2
            cases n <;> simp only [EvK] at hs2
            case value => exact hs2
            case skip => exact hs2
            case enter => obtain ⟨_, _, h2⟩ := hs2; exact h2
        | al =>
          rw [hk] at hs2
          obtain ⟨ob, v, _, h2⟩ := hs2
          obtain ⟨g, h3, h4⟩ := hi.fresh F.w0.heap.size
          exact h2 g h3 h4
        | wr => rw [hk] at hs2; obtain ⟨_, _, _, _, _, _, h4⟩ := hs2; exact h4 undef
        | bi => rw [hk] at hs2; obtain ⟨_, _, _, h2⟩ := bfin_out hi (hs2 hi); exact h2
        | rd => rw [hk] at hs2; obtain ⟨_, _, h2⟩ := hs2; exact h2
        | ns => rw [hk] at hs2; exact hs2.2
        | gen => rw [hk] at hok; cases o.1 <;> simp [okKinds] at hok
        | rob => rw [hk, ho] at hok; simp [okKinds] at hok
      unfold St
      rw [if_pos hwo, ho]
      refine ⟨e1, ?_⟩
      dsimp only
      rw [hw undef, if_pos hwk, he undef]
      exact hk2
    have goal_of : ∀ (R : Act → Hp → Prop), (∀ u h', R (a.put o.2.dst u) h' → StK P F S k.1 (execOp a.eval k.2) h' (fun v h'' => K ((a.put o.2.dst u).put k.2.dst v) h'')) → St P F S ops o a h R → St P F S ops o a h (fun a2 h2 => St P F S ops k a2 h2 K) := by
      intro R hR hst
      refine hst.mono hi (fun u h' _ hh => ?_)
      have := hR u h' hh
      unfold St
      rw [hw u, if_pos hwk, he u]
      exact this
    cases hk : k.1 with
    | ev =>
      rw [hk] at hs'
      simp only [StK] at hs'
      cases e : rval P F (execOp a.eval k.2) S with
      | none => rw [e] at hs'; exact hs'.elim
      | some n =>
        rw [e] at hs'
        cases n <;> simp only [EvK] at hs'
        case value v => exact goal_of _ (fun u h' hh => by rw [hk]; simp only [StK, e, EvK]; exact hh) hs'
        case skip => exact goal_of _ (fun u h' hh => by rw [hk]; simp only [StK, e, EvK]; exact hh) hs'
        case enter f args =>
          obtain ⟨v, hv, hst⟩ := hs'
          exact goal_of _ (fun u h' hh => by rw [hk]; simp only [StK, e, EvK]; exact ⟨v, hv, hh⟩) hst
    | gen => rw [hk] at hok; cases o.1 <;> simp [okKinds] at hok
    | rob =>
      rw [hk] at hs' hok
      simp only [StK] at hs'
      obtain ⟨f, args, ef, hr⟩ := hs' hi
      by_cases hwo : Region.wanted o.2 (yielded ops a.tmps) = true
      · cases ho : o.1 with
        | ev =>
          have k5 : RobK P F S h f args (fun v h' => EvK P F S (fun u h'' => K ((a.put o.2.dst u).put k.2.dst v) h'') h' (rval P F (execOp a.eval o.2) S)) := by
            refine hr.mono (fun v h' _ hh => ?_)
            unfold St at hh
            rw [if_pos hwo, ho] at hh
            exact hh
          have back : ∀ u, RobK P F S h f args (fun v h' => K ((a.put o.2.dst u).put k.2.dst v) h') → St P F S ops k (a.put o.2.dst u) h K := by
            intro u hu
            unfold St
            rw [hw u, if_pos hwk, he u, hk]
            exact fun _ => ⟨f, args, ef, hu⟩
          unfold St
          rw [if_pos hwo, ho]
          simp only [StK]
          cases e : rval P F (execOp a.eval o.2) S with
          | none =>
            rw [e] at k5
            obtain ⟨v, h', _, hh⟩ := (k5.here hi).some_end hi
            exact hh.elim
          | some n =>
            rw [e] at k5
            cases n <;> simp only [EvK] at k5 ⊢
            case value u => exact back u k5
            case skip => exact back undef k5
            case enter f2 args2 =>
              obtain ⟨v, h', _, u0, c0, _⟩ := (k5.here hi).some_end hi
              refine ⟨u0, c0, back u0 (k5.mono (fun v h' _ hh => ?_))⟩
              obtain ⟨u1, c1, k6⟩ := hh
              rw [CV.one hi c0 c1]
              exact k6
            all_goals (obtain ⟨v, h', _, hh⟩ := (k5.here hi).some_end hi; exact hh.elim)
        | al =>
          have k5 : RobK P F S h f args (fun v h' => ∃ ob u, AL P F (execOp a.eval o.2) ob u ∧ NewK F ob (fun g h'' => K ((a.put o.2.dst (u g)).put k.2.dst v) h'') h') := by
            refine hr.mono (fun v h' _ hh => ?_)
            unfold St at hh
            rw [if_pos hwo, ho] at hh
            exact hh
          obtain ⟨_, _, _, ob0, u0, hu0, _⟩ := (k5.here hi).some_end hi
          unfold St
          rw [if_pos hwo, ho]
          refine ⟨ob0, u0, hu0, fun g h1 h2 => ?_⟩
          show St P F S ops k (a.put o.2.dst (u0 g)) (h.set g ob0) K
          unfold St
          rw [hw (u0 g), if_pos hwk, he (u0 g), hk]
          intro hi'
          refine ⟨f, args, ef, k5.beside h1 h2 fun v h4 _ h5 hh => ?_⟩
          obtain ⟨ob1, u1, hu1, hq2⟩ := hh
          have := (hu0 h4 (fun u h'' => K ((a.put o.2.dst u).put k.2.dst v) h'')).1 ((hu1 _ _).2 hq2)
          exact this g h1 h5
        | wr => rw [ho] at hok; simp [okKinds] at hok
        | bi => rw [ho] at hok; simp [okKinds] at hok
        | rd => rw [ho] at hok; simp [okKinds] at hok
        | ns => exact absurd ⟨ho, hwo⟩ hns
        | gen => rw [ho] at hok; simp [okKinds] at hok
        | rob => rw [ho] at hok; simp [okKinds] at hok
      · unfold St
        rw [if_neg hwo]
        dsimp only
        rw [hw undef, if_pos hwk, he undef, hk]
        intro hi'
        refine ⟨f, args, ef, hr.mono fun v h' _ hh => ?_⟩
        unfold St at hh
        rw [if_neg hwo] at hh
        exact hh
    | ns =>
      rw [hk] at hs'
      simp only [StK] at hs'
      exact goal_of _ (fun u h' hh => by rw [hk]; exact ⟨hs'.1, hh⟩) hs'.2
    | rd =>
      rw [hk] at hs' hok
      simp only [StK] at hs'
      obtain ⟨v, k1, k2⟩ := hs'
      have back : ∀ u h', rval P F (execOp a.eval k.2) h' = some (.value v) → K ((a.put o.2.dst u).put k.2.dst v) h' → St P F S ops k (a.put o.2.dst u) h' K := by
        intro u h' h1 h2
        unfold St
        rw [hw u, if_pos hwk, he u, hk]
        exact ⟨v, h1, h2⟩
      unfold St at k2 ⊢
      by_cases hwo : Region.wanted o.2 (yielded ops a.tmps) = true
      · rw [if_pos hwo] at k2 ⊢
        cases ho : o.1 with
        | ev =>
          rw [ho] at k2
          simp only [StK] at k2 ⊢
          exact k2.mono fun u hu => back u h k1 hu
        | al =>
          rw [ho] at k2
          obtain ⟨ob, u, h1, h2⟩ := k2
          exact ⟨ob, u, h1, fun g h3 h4 => back (u g) _ (rval_set h4 _ k1) (h2 g h3 h4)⟩
        | rd =>
          rw [ho] at k2
          obtain ⟨u, h1, h2⟩ := k2
          exact ⟨u, h1, back u h k1 h2⟩
        | wr => rw [ho] at hok; simp [okKinds] at hok
        | bi => rw [ho] at hok; simp [okKinds] at hok
        | ns => exact absurd ⟨ho, hwo⟩ hns
        | gen => rw [ho] at hok; simp [okKinds] at hok
        | rob => rw [ho] at hok; simp [okKinds] at hok
      · rw [if_neg hwo] at k2 ⊢
        exact back undef h k1 k2
    | wr =>
      rw [hk] at hs' hok
      simp only [StK] at hs'
      obtain ⟨b, ob, ob', k1, k2, k3, k4⟩ := hs'
      by_cases hwo : Region.wanted o.2 (yielded ops a.tmps) = true
      · cases ho : o.1 with
        | ev =>
          have back : ∀ u, (∀ v, K ((a.put o.2.dst u).put k.2.dst v) (h.set b ob')) → St P F S ops k (a.put o.2.dst u) h K := by
            intro u hu
            unfold St
            rw [hw u, if_pos hwk, he u, hk]
            exact ⟨b, ob, ob', k1, k2, k3, hu⟩
          have k5 : ∀ v, EvK P F S (fun u h' => K ((a.put o.2.dst u).put k.2.dst v) h') (h.set b ob') (rval P F (execOp a.eval o.2) S) := by
            intro v
            have := k4 v
            unfold St at this
            rw [if_pos hwo, ho] at this
            exact this
          unfold St
          rw [if_pos hwo, ho]
          simp only [StK]
          cases e : rval P F (execOp a.eval o.2) S with
          | none => have := k5 undef; rw [e] at this; exact this.elim
          | some n =>
            rw [e] at k5
            cases n <;> simp only [EvK] at k5 ⊢
            case value u => exact back u k5
            case skip => exact back undef k5
            case enter f args =>
              obtain ⟨u0, c0, _⟩ := k5 undef
              refine ⟨u0, c0, back u0 fun v => ?_⟩
              obtain ⟨u1, c1, k6⟩ := k5 v
              rw [CV.one hi c0 c1]
              exact k6
            all_goals exact (k5 undef).elim
        | al => rw [ho] at hok; simp [okKinds] at hok
        | wr => rw [ho] at hok; simp [okKinds] at hok
        | bi => rw [ho] at hok; simp [okKinds] at hok
        | rd => rw [ho] at hok; simp [okKinds] at hok
        | ns => exact absurd ⟨ho, hwo⟩ hns
        | gen => rw [ho] at hok; simp [okKinds] at hok
        | rob => rw [ho] at hok; simp [okKinds] at hok
      · unfold St
        rw [if_neg hwo]
        dsimp only
        rw [hw undef, if_pos hwk, he undef, hk]
        refine ⟨b, ob, ob', k1, k2, k3, fun v => ?_⟩
        have this := k4 v
        unfold St at this
        rw [if_neg hwo] at this
        exact this
    | bi =>
      rw [hk] at hs' hok
      simp only [StK] at hs'
      have hs2 := hs' hi
      by_cases hwo : Region.wanted o.2 (yielded ops a.tmps) = true
      · cases ho : o.1 with
        | ev =>
          have k5 : dwp P F (execOp a.eval k.2) h (bfin fun v h' => Inv F S h' ∧ EvK P F S (fun u h'' => K ((a.put o.2.dst u).put k.2.dst v) h'') h' (rval P F (execOp a.eval o.2) S)) := by
            refine bfin_mono (fun v h' hh => ⟨hh.1, ?_⟩) hs2
            have := hh.2
            unfold St at this
            rw [if_pos hwo, ho] at this
            exact this
          have back : ∀ u, dwp P F (execOp a.eval k.2) h (bfin fun v h' => Inv F S h' ∧ K ((a.put o.2.dst u).put k.2.dst v) h') → St P F S ops k (a.put o.2.dst u) h K := by
            intro u hu
            unfold St
            rw [hw u, if_pos hwk, he u, hk]
            exact fun _ => hu
          unfold St
          rw [if_pos hwo, ho]
          simp only [StK]
          cases e : rval P F (execOp a.eval o.2) S with
          | none =>
            rw [e] at k5
            obtain ⟨v, h', _, hh⟩ := bfin_out hi k5
            exact hh.elim
          | some n =>
            rw [e] at k5
            cases n <;> simp only [EvK] at k5 ⊢
            case value u => exact back u k5
            case skip => exact back undef k5
            case enter f args =>
              obtain ⟨v, h', _, u0, c0, _⟩ := bfin_out hi k5
              refine ⟨u0, c0, back u0 (bfin_mono (fun v h' hh => ⟨hh.1, ?_⟩) k5)⟩
              obtain ⟨u1, c1, k6⟩ := hh.2
              rw [CV.one hi c0 c1]
              exact k6
            all_goals (obtain ⟨v, h', _, hh⟩ := bfin_out hi k5; exact hh.elim)
        | al =>
          have k5 : dwp P F (execOp a.eval k.2) h (bfin fun v h' => Inv F S h' ∧ ∃ ob u, AL P F (execOp a.eval o.2) ob u ∧ NewK F ob (fun g h'' => K ((a.put o.2.dst (u g)).put k.2.dst v) h'') h') := by
            refine bfin_mono (fun v h' hh => ⟨hh.1, ?_⟩) hs2
            have := hh.2
            unfold St at this
            rw [if_pos hwo, ho] at this
            exact this
          obtain ⟨_, _, _, ob0, u0, hu0, _⟩ := bfin_out hi k5
          unfold St
          rw [if_pos hwo, ho]
          refine ⟨ob0, u0, hu0, fun g h1 h2 => ?_⟩
          show St P F S ops k (a.put o.2.dst (u0 g)) (h.set g ob0) K
          unfold St
          rw [hw (u0 g), if_pos hwk, he (u0 g), hk]
          intro hi'
          have k6 := dwp_frame (ob := ob0) h1 _ _ _ k5 h2
          refine dwp_mono (fun n h3 hn => ?_) _ _ k6
          obtain ⟨h4, h5, rfl, hq⟩ := hn
          cases n <;> simp only [bfin] at hq ⊢
          obtain ⟨q1, ob1, u1, hu1, hq2⟩ := hq
          refine ⟨q1.set (q1.none h5) (.inl h1), ?_⟩
          have := (hu0 h4 (fun u h'' => K ((a.put o.2.dst u).put k.2.dst _) h'')).1 ((hu1 _ _).2 hq2)
          exact this g h1 h5
        | wr => rw [ho] at hok; simp [okKinds] at hok
        | bi => rw [ho] at hok; simp [okKinds] at hok
        | rd => rw [ho] at hok; simp [okKinds] at hok
        | ns => exact absurd ⟨ho, hwo⟩ hns
        | gen => rw [ho] at hok; simp [okKinds] at hok
        | rob => rw [ho] at hok; simp [okKinds] at hok
      · unfold St
        rw [if_neg hwo]
        dsimp only
        rw [hw undef, if_pos hwk, he undef, hk]
        intro hi'
        refine bfin_mono (fun v h' hh => ⟨hh.1, ?_⟩) (hs' hi')
        have := hh.2
        unfold St at this
        rw [if_neg hwo] at this
        exact this
    | al =>
      rw [hk] at hs' hok
      simp only [StK] at hs'
      obtain ⟨ob, v, hv, hst⟩ := hs'
      by_cases hwo : Region.wanted o.2 (yielded ops a.tmps) = true
      · -- the other one is carried out
        have hst' : ∀ g, F.w0.heap.size ≤ g → h.own g = none → StK P F S o.1 (execOp a.eval o.2) (h.set g ob) (fun u h' => K ((a.put o.2.dst u).put k.2.dst (v g)) h') := by
          intro g hg1 hg2
          have this : St P F S ops o a (h.set g ob) (fun a2 h2 => K (a2.put k.2.dst (v g)) h2) := hst g hg1 hg2
          unfold St at this
          rw [if_pos hwo] at this
          exact this
        unfold St
        rw [if_pos hwo]
        have back : ∀ u h', NewK F ob (fun g h'' => K ((a.put o.2.dst u).put k.2.dst (v g)) h'') h' → (if Region.wanted k.2 (yielded ops (a.put o.2.dst u).tmps) = true then StK P F S k.1 (execOp (a.put o.2.dst u).eval k.2) h' (fun v h'' => K ((a.put o.2.dst u).put k.2.dst v) h'') else K ((a.put o.2.dst u).put k.2.dst undef) h') := by
          intro u h' hh
          rw [hw u, if_pos hwk, he u, hk]
          exact ⟨ob, v, hv, hh⟩
        obtain ⟨g0, hg1, hg2⟩ := hi.fresh F.w0.heap.size
        cases ho : o.1 with
        | ev =>
          rw [ho] at hst'
          simp only [StK] at hst' ⊢
          cases e : rval P F (execOp a.eval o.2) S with
          | none => have := hst' g0 hg1 hg2; rw [e] at this; exact this.elim
          | some n =>
            simp only [e] at hst'
            cases n <;> simp only [EvK] at hst' ⊢
            case value u => exact back u h (fun g hg3 hg4 => hst' g hg3 hg4)
            case skip => exact back undef h (fun g hg3 hg4 => hst' g hg3 hg4)
            case enter f args =>
              obtain ⟨u0, c0, _⟩ := hst' g0 hg1 hg2
              refine ⟨u0, c0, back u0 h (fun g hg3 hg4 => ?_)⟩
              obtain ⟨u1, c1, k1⟩ := hst' g hg3 hg4
              rw [CV.one hi c0 c1]
              exact k1
            all_goals exact (hst' g0 hg1 hg2).elim
        | al =>
          rw [ho] at hst'
          simp only [StK] at hst' ⊢
          obtain ⟨ob0, u0, hu0, _⟩ := hst' g0 hg1 hg2
          refine ⟨ob0, u0, hu0, fun g' h3 h4 => back (u0 g') _ ?_⟩
          have key : ∀ g, F.w0.heap.size ≤ g → h.own g = none → NewK F ob0 (fun g' h' => K ((a.put o.2.dst (u0 g')).put k.2.dst (v g)) h') (h.set g ob) := by
            intro g hg3 hg4
            obtain ⟨ob1, u1, hu1, hk1⟩ := hst' g hg3 hg4
            exact (hu0 (h.set g ob) (fun u h' => K ((a.put o.2.dst u).put k.2.dst (v g)) h')).1 ((hu1 _ _).2 hk1)
          exact NewK_swap key g' h3 h4
        | wr =>
          rw [ho] at hst'
          simp only [StK] at hst' ⊢
          obtain ⟨b0, ob0, ob0', q1, q2, q3, q4⟩ := hst' g0 hg1 hg2
          have hne : b0 ≠ g0 := by
            rintro rfl
            obtain ⟨g1, hg3, hg4⟩ := hi.fresh (max F.w0.heap.size (b0 + 1))
            obtain ⟨b1, ob1, ob1', r1, r2, _, _⟩ := hst' g1 (by omega) hg4
            have e1 : (h.set g1 ob).own b0 = none := by rw [Hp.own_set, if_neg (by omega)]; exact hg2
            exact q2.2.1 _ e1 (fun _ _ => True) (r2.1 _ r1 _ fun _ => trivial)
          have o0 : h.own b0 = some ob0 := by rw [Hp.own_set, if_neg hne] at q1; exact q1
          refine ⟨b0, ob0, ob0', o0, q2, q3, fun u => back u _ fun g hg3 hg4 => ?_⟩
          have hgb : g ≠ b0 := by
            rintro rfl
            rw [Hp.own_set, if_pos rfl] at hg4
            cases hg4
          have hg5 : h.own g = none := by rw [Hp.own_set, if_neg hgb] at hg4; exact hg4
          obtain ⟨b1, ob1, ob1', r1, r2, r3, r4⟩ := hst' g hg3 hg5
          have hb : b1 = b0 := by
            apply Classical.byContradiction
            intro hc
            have od : ∀ {h : Hp} {x y : Nat}, (h.drop x).own y = if y = x then none else h.own y := rfl
            have e1 : ((h.set g ob).drop b1).own b1 = none := by rw [od, if_pos rfl]
            have e2 : ((h.set g ob).drop b1).own b0 = some ob0 := by
              rw [od, if_neg (fun e => hc e.symm), Hp.own_set, if_neg (fun e => hgb e.symm)]
              exact o0
            exact r2.2.1 _ e1 (fun _ _ => True) (q2.1 _ e2 _ fun _ => trivial)
          subst hb
          have hob : ob1 = ob0 := by
            rw [Hp.own_set, if_neg (fun e => hgb e.symm), o0] at r1
            cases r1; rfl
          subst hob
          obtain ⟨_, hs1⟩ := q2.2.2 h o0 (fun _ h' => h' = h.set b1 ob1') (r2.1 h o0 _ fun _ => rfl)
          have hs2 : ob0' = ob1' := by
            have := congrArg (fun x : Hp => x.own b1) hs1
            simpa [Hp.own_set] using this
          subst hs2
          have e : (h.set b1 ob0').set g ob = (h.set g ob).set b1 ob0' := by
            unfold Hp.set
            congr 1
            funext k
            by_cases e1 : k = g <;> by_cases e2 : k = b1 <;> simp_all
          rw [e]
          exact r4 u
        | rd =>
          rw [ho] at hst'
          simp only [StK] at hst' ⊢
          obtain ⟨n, hn⟩ := rval_unset hi (execOp a.eval o.2) fun g h1 h2 => (hst' g h1 h2).imp' _ fun u hu => hu.1
          obtain ⟨u0, h1, h2⟩ := hst' g0 hg1 hg2
          have e0 := rval_set (ob := ob) hg2 _ hn
          rw [e0] at h1
          cases h1
          refine ⟨u0, hn, back u0 h fun g hg3 hg4 => ?_⟩
          obtain ⟨u1, h3, h4⟩ := hst' g hg3 hg4
          have e1 := rval_set (ob := ob) hg4 _ hn
          rw [e1] at h3
          cases h3
          exact h4
        | bi => rw [ho] at hok; simp [okKinds] at hok
        | ns => exact absurd ⟨ho, hwo⟩ hns
        | gen => rw [ho] at hok; simp [okKinds] at hok
        | rob => rw [ho] at hok; simp [okKinds] at hok
      · unfold St
        rw [if_neg hwo]
        dsimp only
        rw [hw undef, if_pos hwk, he undef, hk]
        refine ⟨ob, v, hv, fun g hg1 hg2 => ?_⟩
        have this : St P F S ops o a (h.set g ob) (fun a2 h2 => K (a2.put k.2.dst (v g)) h2) := hst g hg1 hg2
        unfold St at this
        rw [if_neg hwo] at this
        exact this
  · have hs' : St P F S ops o a h (fun a2 h2 => K (a2.put k.2.dst undef) h2) := by
      unfold St at hs
      rw [if_neg hwk] at hs
      have := St_put (P := P) (F := F) (S := S) (ops := ops) (k := k.2) (p := o) (a := a) (h := h) (K := K) (u := undef) hso h1 h2
      unfold St at this ⊢
      rw [← this]
      exact hs
    refine hs'.mono hi (fun u h' _ hh => ?_)
    unfold St
    rw [hw u, if_neg hwk]
    exact hh

/-! ### A region that draws, in the order of the text -/
def T (P : Program) (F : Fr) (S : Hp) (ops : Array Oper) (K : Act → Hp → Prop) : List (Kind × Oper) → Act → Hp → Prop
  | [], a, h => K a h
  | p :: r, a, h => St P F S ops p a h (T P F S ops K r)
def selB (o : Oper) : Bool := match o.op with | .select _ _ => true | _ => false
theorem noSel_of {o : Oper} (h : selB o = false) : noSel o := by
  intro cs b e
  unfold selB at h
  rw [e] at h
  cases h
/-- An operation is taken out ahead of those that stand before it and that it does not wait for. -/
theorem T_out {K : Act → Hp → Prop} {o : Kind × Oper} {l2 : List (Kind × Oper)} : ∀ (l1 : List (Kind × Oper)) (a : Act) (h : Hp), Inv F S h →
    (∀ k ∈ l1, selB k.2 = false ∧ k.2.apart ops o.2 = true ∧ okKinds k.1 o.1 = true) → selB o.2 = false →
    T P F S ops K (l1 ++ o :: l2) a h → St P F S ops o a h (T P F S ops K (l1 ++ l2)) := by
  intro l1
  induction l1 with
  | nil => exact fun a h _ _ _ ht => ht
  | cons k l1 ih =>
    intro a h hi hc ho ht
    obtain ⟨h1, h2, h3⟩ := hc k (List.mem_cons_self ..)
    have ht' : St P F S ops k a h (T P F S ops K (l1 ++ o :: l2)) := ht
    have h4 : St P F S ops k a h (fun a1 h1 => St P F S ops o a1 h1 (T P F S ops K (l1 ++ l2))) :=
      ht'.mono hi (fun v h' hi' hh => ih _ _ hi' (fun k' hk' => hc k' (List.mem_cons_of_mem _ hk')) ho hh)
    exact St_comm hi (noSel_of h1) (noSel_of ho) h2 h3 h4

theorem St.sound (ro : Option Nat) {o : Oper} {k : Kind} {i : Nat} {a : Act} {h : Hp} {w : World} {K : Act → Hp → Prop} {Q : Exit → Act → World → Prop} (ho : ops[i]? = some o) (hi : Inv F S h) (r : HRel F h w)
    (hs : St P F S ops (k, o) a h K) : wpOpIn (wideR ro) 0 P ops Q i (fun a' w' => ∃ h', Inv F S h' ∧ K a' h' ∧ HRel F h' w') a w := by
  unfold wpOpIn
  simp only [ho]
  unfold St at hs
  split
  · rename_i hw
    simp only [hw, if_true] at hs
    have h1 : dop P F o a h (fun a' h' => Inv F S h' ∧ K a' h') := by rw [dop_vop]; exact hs.vop hi
    exact Oper.wpIn_mono (fun a' w' ⟨h', ⟨q1, q2⟩, q3⟩ => ⟨h', q1, q2, q3⟩) (dop_sound ro h1 r)
  · rename_i hw
    simp only [hw] at hs
    exact ⟨wideR_about, h, hi, hs, r⟩

def preds (o : Oper) : List Nat := (o.after.toList.filter (Region.binds .any)).map (·.on)
theorem mem_preds {o : Oper} {p : Nat} : p ∈ preds o ↔ ∃ e ∈ o.after, Region.binds .any e = true ∧ e.on = p := by
  unfold preds
  simp only [List.mem_map, List.mem_filter, Array.mem_toList_iff]
  constructor
  · rintro ⟨e, ⟨h1, h2⟩, h3⟩; exact ⟨e, h1, h2, h3⟩
  · rintro ⟨e, h1, h2, h3⟩; exact ⟨e, ⟨h1, h2⟩, h3⟩
def ancs : List Oper → List (List Nat) → List (List Nat)
  | [], A => A
  | o :: r, A => ancs r (A ++ [((preds o).foldl (fun acc p => p :: (A.getD p []) ++ acc) []).eraseDups])
def okAnc (ops : List Oper) (A : List (List Nat)) : Bool := ops.zipIdx.all fun oj => (preds oj.1).all (fun p => decide (p < oj.2)) && (A.getD oj.2 []).all fun k => (preds oj.1).any fun p => p == k || (A.getD p []).contains k
def okPairs (l : List (Kind × Oper)) (ops : Array Oper) (A : List (List Nat)) : Bool := l.zipIdx.all fun q => !selB q.1.2 && (l.take q.2).zipIdx.all fun k => (A.getD q.2 []).contains k.2 || (k.1.2.apart ops q.1.2 && okKinds k.1.1 q.1.1)
def items (over : List Nat) (ops : List Oper) : List (Kind × Oper) := ops.zipIdx.map fun oi => (if over.contains oi.2 then overKind oi.1.op else kindOf oi.1.op, oi.1)
def okDraw (over : List Nat) (ops : List Oper) : Bool := let A := ancs ops []; okAnc ops A && okPairs (items over ops) ops.toArray A

/-- Those listed are listed with all that they wait for. -/
def Closed (ops : Array Oper) (listed : Array Bool) : Prop := ∀ j o, ops[j]? = some o → listed.getD j true = true → ∀ p ∈ preds o, listed.getD p false = true
theorem anc_listed {A : List (List Nat)} {listed : Array Bool} (hA : ∀ j o, ops[j]? = some o → (∀ p ∈ preds o, p < j) ∧ ∀ k ∈ A.getD j [], ∃ p ∈ preds o, p = k ∨ k ∈ A.getD p []) (hc : Closed ops listed) (hs : listed.size = ops.size) :
    ∀ (j : Nat) (o : Oper), ops[j]? = some o → (∀ p ∈ preds o, listed.getD p false = true) → ∀ k ∈ A.getD j [], listed.getD k false = true := by
  intro j
  induction j using Nat.strongRecOn with
  | _ j ih =>
    intro o ho hp k hk
    obtain ⟨p, hpp, hpk⟩ := (hA j o ho).2 k hk
    rcases hpk with rfl | hpk
    · exact hp _ hpp
    · have hlt := (hA j o ho).1 p hpp
      have hj : j < ops.size := (Array.getElem?_eq_some_iff.1 ho).1
      have hps : p < ops.size := by omega
      have hpo : ops[p]? = some ops[p] := Array.getElem?_eq_getElem hps
      have hl := hp p hpp
      have hl' : listed.getD p true = true := by
        simp only [Array.getD_eq_getD_getElem?] at hl ⊢
        rw [Array.getElem?_eq_getElem (by omega)] at hl ⊢
        exact hl
      exact ih p hlt _ hpo (fun p' hp' => hc p _ hpo hl' p' hp') k hpk

def itemOf (kinds : Nat → Kind) (ops : Array Oper) (j : Nat) : Kind × Oper := (kinds j, (ops[j]?).getD default)
theorem wpAny_of (ro : Option Nat) {A : List (List Nat)} {kinds : Nat → Kind} {K : Act → Hp → Prop} {Q : Exit → Act → World → Prop} (hq : ∀ a h w, K a h → HRel F h w → Q .normal a w)
    (hA : ∀ j o, ops[j]? = some o → (∀ p ∈ preds o, p < j) ∧ ∀ k ∈ A.getD j [], ∃ p ∈ preds o, p = k ∨ k ∈ A.getD p [])
    (hsel : ∀ j, selB (itemOf kinds ops j).2 = false)
    (hp : ∀ j, j < ops.size → ∀ i, i < j → i ∈ A.getD j [] ∨ ((itemOf kinds ops i).2.apart ops (itemOf kinds ops j).2 = true ∧ okKinds (kinds i) (kinds j) = true)) :
    ∀ (fuel : Nat) (listed : Array Bool) (l : List Nat) (a : Act) (h : Hp) (w : World), listed.size = ops.size → Closed ops listed → l.Pairwise (· < ·) → (∀ j, j ∈ l ↔ j < ops.size ∧ listed.getD j true = false) → l.length ≤ fuel →
      T P F S ops K (l.map (itemOf kinds ops)) a h → Inv F S h → HRel F h w → wpAnyIn (wideR ro) 0 P .any ops Q fuel listed a w := by
  intro fuel
  induction fuel with
  | zero =>
    intro listed l a h w hs hc hsort hl hlen ht hi r
    have hnil : l = [] := List.eq_nil_of_length_eq_zero (by omega)
    subst hnil
    refine ⟨?_, hq _ _ _ ht r⟩
    cases hr : Region.ready .any ops listed with
    | nil => rfl
    | cons x xs =>
      have hx : x ∈ Region.ready .any ops listed := by rw [hr]; exact List.mem_cons_self ..
      obtain ⟨h0, o, ho, _⟩ := mem_ready.1 hx
      have := (hl x).2 ⟨(Array.getElem?_eq_some_iff.1 ho).1, h0⟩
      cases this
  | succ fuel ih =>
    intro listed l a h w hs hc hsort hl hlen ht hi r
    refine ⟨fun hr => ?_, fun i hi' => ?_⟩
    · cases l with
      | nil => exact hq _ _ _ ht r
      | cons j l =>
        exfalso
        obtain ⟨h1, h2⟩ := (hl j).1 (List.mem_cons_self ..)
        have ho : ops[j]? = some ops[j] := Array.getElem?_eq_getElem h1
        have : j ∈ Region.ready .any ops listed := by
          rw [mem_ready]
          refine ⟨h2, _, ho, fun e he hb => ?_⟩
          have hp' : e.on ∈ preds ops[j] := mem_preds.2 ⟨e, he, hb, rfl⟩
          have hlt := (hA j _ ho).1 _ hp'
          have hnl : e.on ∉ j :: l := by
            intro hm
            rcases List.mem_cons.1 hm with hm | hm
            · omega
            · have := (List.pairwise_cons.1 hsort).1 _ hm; omega
          have hn2 : ¬ listed.getD e.on true = false := fun hh => hnl ((hl e.on).2 ⟨by omega, hh⟩)
          simp only [Array.getD_eq_getD_getElem?] at hn2 ⊢
          rw [Array.getElem?_eq_getElem (by omega)] at hn2 ⊢
          simpa using hn2
        rw [hr] at this
        cases this
    · obtain ⟨h0, o, ho, hedges⟩ := mem_ready.1 hi'
      have hlt : i < ops.size := (Array.getElem?_eq_some_iff.1 ho).1
      have hpl : ∀ p ∈ preds o, listed.getD p false = true := fun p hp' => by
        obtain ⟨e, he, hb, rfl⟩ := mem_preds.1 hp'
        exact hedges e he hb
      have hm : i ∈ l := (hl i).2 ⟨hlt, h0⟩
      obtain ⟨l1, l2, rfl⟩ := List.append_of_mem hm
      have hpw := List.pairwise_append.1 hsort
      have hit : itemOf kinds ops i = (kinds i, o) := by simp [itemOf, ho]
      rw [List.map_append, List.map_cons] at ht
      have h2 := T_out (P := P) (F := F) (S := S) (ops := ops) (K := K) (o := itemOf kinds ops i) (l2 := l2.map (itemOf kinds ops)) (l1.map (itemOf kinds ops)) a h hi (fun k hk => by
        obtain ⟨j, hj, rfl⟩ := List.mem_map.1 hk
        have hji : j < i := hpw.2.2 j hj i (List.mem_cons_self ..)
        refine ⟨hsel j, ?_⟩
        rcases hp i hlt j hji with h3 | h3
        · exfalso
          have h4 := anc_listed hA hc hs i o ho hpl j h3
          have h5 := ((hl j).1 (List.mem_append_left _ hj)).2
          simp only [Array.getD_eq_getD_getElem?] at h4 h5
          rw [Array.getElem?_eq_getElem (by omega)] at h4 h5
          simp only [Option.getD_some] at h4 h5
          rw [h4] at h5
          cases h5
        · exact h3) (hsel i) ht
      rw [hit, ← List.map_append] at h2
      refine wpOpIn_mono (fun a' w' hh => ?_) (St.sound ro ho hi r h2)
      obtain ⟨h', q1, q2, q3⟩ := hh
      refine ih (listed.setIfInBounds i true) (l1 ++ l2) a' h' w' (by simp [hs]) ?_ ?_ ?_ ?_ q2 q1 q3
      · intro j oj hoj hlj p hpp
        by_cases hij : i = j
        · subst hij
          rw [ho] at hoj
          simp only [Option.some.injEq] at hoj
          subst hoj
          exact getD_set_true (hpl p hpp)
        · rw [getD_set_ne true hij] at hlj
          exact getD_set_true (hc j oj hoj hlj p hpp)
      · exact hsort.sublist (List.Sublist.append (List.Sublist.refl l1) (List.sublist_cons_self i l2))
      · intro j
        have hnot : i ∉ l1 ++ l2 := by
          intro hmem
          rcases List.mem_append.1 hmem with hm1 | hm2
          · have := hpw.2.2 i hm1 i (List.mem_cons_self ..); omega
          · have := (List.pairwise_cons.1 hpw.2.1).1 i hm2; omega
        by_cases hij : i = j
        · subst hij
          refine ⟨fun hmem => absurd hmem hnot, fun hh => ?_⟩
          have := hh.2
          simp [hs, hlt] at this
        · rw [getD_set_ne true hij, ← hl j]
          simp only [List.mem_append, List.mem_cons]
          constructor
          · rintro (h3 | h3)
            · exact .inl h3
            · exact .inr (.inr h3)
          · rintro (h3 | h3 | h3)
            · exact .inl h3
            · exact absurd h3.symm hij
            · exact .inr h3
      · simp only [List.length_append, List.length_cons] at hlen ⊢
        omega

theorem okAnc_spec {l : List Oper} {A : List (List Nat)} (h : okAnc l A = true) (j : Nat) (o : Oper) (ho : l[j]? = some o) : (∀ p ∈ preds o, p < j) ∧ ∀ k ∈ A.getD j [], ∃ p ∈ preds o, p = k ∨ k ∈ A.getD p [] := by
  unfold okAnc at h
  rw [List.all_eq_true] at h
  have h1 := h (o, j) (List.mem_zipIdx_iff_getElem?.2 ho)
  simp only [Bool.and_eq_true, List.all_eq_true, List.any_eq_true, decide_eq_true_eq, Bool.or_eq_true, beq_iff_eq, List.contains_iff_mem] at h1
  exact h1
theorem okPairs_spec {l : List (Kind × Oper)} {ops : Array Oper} {A : List (List Nat)} (h : okPairs l ops A = true) (j : Nat) (q : Kind × Oper) (hj : l[j]? = some q) : selB q.2 = false ∧ ∀ i k, i < j → l[i]? = some k → i ∈ A.getD j [] ∨ (k.2.apart ops q.2 = true ∧ okKinds k.1 q.1 = true) := by
  unfold okPairs at h
  rw [List.all_eq_true] at h
  have h1 := h (q, j) (List.mem_zipIdx_iff_getElem?.2 hj)
  simp only [Bool.and_eq_true, Bool.not_eq_true', List.all_eq_true, Bool.or_eq_true, List.contains_iff_mem] at h1
  refine ⟨h1.1, fun i k hi hk => h1.2 (k, i) (List.mem_zipIdx_iff_getElem?.2 ?_)⟩
  rw [List.getElem?_take_of_lt hi]
  exact hk
theorem items_get {over : List Nat} {l : List Oper} {j : Nat} {o : Oper} (ho : l[j]? = some o) : (items over l)[j]? = some (if over.contains j then overKind o.op else kindOf o.op, o) := by
  unfold items
  simp [List.getElem?_map, List.getElem?_zipIdx, ho]

/-- A region that draws, walked in the order of the text. -/
theorem DDraw.of {id : Nat} {l : List Oper} {K : Act → Hp → Prop} {a : Act} {h : Hp} (over : List Nat) (S : Hp) (hm : P.follows .mixedOrders = true) (hok : okDraw over l = true) (hS : ∀ g o, S.own g = some o → h.own g = some o)
    (ht : T P F S l.toArray K (items over l) a h) : DDraw P F id l.toArray K a h := by
  intro Q hQ ro _ w r
  refine wpIn_region_any hm ?_
  unfold okDraw at hok
  simp only [Bool.and_eq_true] at hok
  have r' : HRel F h { w with drawn := w.drawn + 1 } := r.drew _
  have hi : Inv F S h := ⟨hS, ⟨w.heap.size, fun g hg => by
    cases e : h.own g with
    | none => rfl
    | some o => have := own_lt r e; omega⟩, r.mine⟩
  have hget : ∀ j o, l[j]? = some o → itemOf (fun j => (((items over l)[j]?).map (·.1)).getD .ev) l.toArray j = (if over.contains j then overKind o.op else kindOf o.op, o) := by
    intro j o ho
    simp [itemOf, items_get ho, ho]
  have hitems : (List.range l.length).map (itemOf (fun j => (((items over l)[j]?).map (·.1)).getD .ev) l.toArray) = items over l := by
    apply List.ext_getElem?
    intro j
    by_cases hj : j < l.length
    · have ho : l[j]? = some l[j] := List.getElem?_eq_getElem hj
      rw [items_get ho, List.getElem?_map, List.getElem?_range hj, Option.map_some, hget j _ ho]
    · have h1 : (items over l).length = l.length := by simp [items]
      rw [List.getElem?_eq_none (by simp; omega), List.getElem?_eq_none (by omega)]
  refine wpAny_of ro (P := P) (F := F) (S := S) (A := ancs l []) (kinds := fun j => (((items over l)[j]?).map (·.1)).getD .ev) (K := K) (fun a h w hk rr => ⟨h, hQ _ _ hk, rr⟩) ?_ ?_ ?_ l.toArray.size _ (List.range l.length) a h _ (by simp) ?_ ?_ ?_ (by simp) ?_ hi r'
  · intro j o ho
    exact okAnc_spec hok.1 j o (by simpa using ho)
  · intro j
    cases ho : l[j]? with
    | none => simp only [itemOf, List.getElem?_toArray, ho, Option.getD_none]; rfl
    | some o =>
      rw [hget j o ho]
      exact (okPairs_spec hok.2 j _ (items_get ho)).1
  · intro j hj i hij
    have hj' : j < l.length := by simpa using hj
    have ho : l[j]? = some l[j] := List.getElem?_eq_getElem hj'
    have ho' : l[i]? = some (l[i]'(by omega)) := List.getElem?_eq_getElem (by omega)
    have h1 := (okPairs_spec hok.2 j _ (items_get ho)).2 i _ hij (items_get ho')
    rw [hget j _ ho, hget i _ ho', items_get ho, items_get ho']
    exact h1
  · intro j o ho hl
    exfalso
    have hlt : j < l.length := by simpa using (Array.getElem?_eq_some_iff.1 ho).1
    simp [hlt] at hl
  · exact List.pairwise_lt_range
  · intro j
    simp only [List.mem_range, List.size_toArray]
    constructor
    · intro hj; exact ⟨hj, by simp [hj]⟩
    · exact fun hh => hh.1
  · rw [hitems]; exact ht
end Go.SL
set_option linter.unusedSimpArgs false
namespace Go.SL
open Go.RowKit
section
variable {α β : Type} {P : Program} {F : Fr} {h S : Hp}
/-! ### Trees that only read -/
def RB (P : Program) (F : Fr) (S : Hp) (f : α → Sem β) : Option α → Option β
  | some a => rval P F (f a) S
  | none => none
theorem RB_some {f : α → Sem β} {a : α} : RB P F S f (some a) = rval P F (f a) S := rfl
theorem rval_bind' {s : Sem α} {f : α → Sem β} : rval P F (s >>= f) S = RB P F S f (rval P F s S) := by
  show rval P F (s.bind f) S = _
  rw [rval_bind]
  cases rval P F s S <;> rfl
theorem rval_pure' {a : α} : rval P F (pure a) S = some a := rfl
theorem rval_load' {a : Addr} {m : Mode} : rval P F (load a m) S = S.cell? F a := by
  simp only [load, rval]
  cases S.cell? F a <;> rfl
theorem rval_program : rval P F program S = some P := rfl
theorem rval_true {s t : Sem α} : rval P F (if true = true then s else t) S = rval P F s S := rfl
theorem rval_un {t : TypeId} {d : TypeDesc} (e : P.underlying t = some d) : rval P F (underlying t) S = some d := by
  simp only [underlying, rval_bind', rval_program, RB_some, e]; rfl
theorem rval_size {t n : Nat} (e : ∀ w, (sizeOf t).run P w = .ok n w) : rval P F (sizeOf t) S = some n := by
  have e1 := e default
  simp only [sizeOf, typeInfo, rval_bind', rval_program, RB_some] at e1 ⊢
  simp only [program, bind, Sem.bind, Sem.run] at e1
  cases ho : P.info? t with
  | none => rw [ho] at e1; simp [stuck, Sem.bind] at e1
  | some i => rw [ho] at e1; simp only [pure, Sem.bind, Sem.run, Result.ok.injEq, and_true] at e1; subst e1; rfl
theorem rval_zero {t : Nat} {v : Value} (e : ∀ w, (zeroValue t).run P w = .ok v w) : rval P F (zeroValue t) S = some v := by
  have e1 := e default
  simp only [zeroValue, typeInfo, rval_bind', rval_program, RB_some] at e1 ⊢
  simp only [program, bind, Sem.bind, Sem.run] at e1
  cases ho : P.info? t with
  | none => rw [ho] at e1; simp [stuck, Sem.bind] at e1
  | some i =>
    rw [ho] at e1
    simp only [pure, Sem.bind] at e1
    cases hz : i.zero with
    | none => rw [hz] at e1; simp [unsupported] at e1
    | some z =>
      rw [hz] at e1; simp only [Sem.run, Result.ok.injEq, and_true] at e1; subst e1
      show RB P F S _ (some i) = _
      simp only [RB_some, hz]
      rfl
theorem rval_agg {t : Nat} {b : Bool} (e : ∀ w, (isAgg t).run P w = .ok b w) : rval P F (isAgg t) S = some b := by
  have e1 := e default
  simp only [isAgg, underlying, rval_bind', rval_program, RB_some] at e1 ⊢
  simp only [program, bind, Sem.bind, Sem.run] at e1
  cases ho : P.underlying t with
  | none => rw [ho] at e1; simp [stuck, Sem.bind] at e1
  | some d =>
    rw [ho] at e1
    simp only [pure, Sem.bind] at e1
    show RB P F S _ (some d) = _
    cases d <;> simp only [Sem.run, Result.ok.injEq, and_true] at e1 <;> subst e1 <;> rfl
theorem rval_callFunc {f : FuncId} {args : Array Value} (e : entB P f = true) : rval P F (callFunc f args) S = some (.enter f args) := by
  unfold entB at e
  simp only [callFunc, rval_bind', rval_program, RB_some]
  cases ho : P.funcs[f]? with
  | none => rw [ho] at e; simp at e
  | some fn =>
    rw [ho] at e
    simp only [Option.map_some, Option.getD_some, Bool.and_eq_true, Bool.not_eq_true'] at e
    simp only [e.1, e.2, Bool.false_eq_true, if_false]
    rfl
end
section
variable {P : Program} {F : Fr} {S h : Hp} {ops : Array Oper} {K : Act → Hp → Prop} {a : Act} {o : Oper} {l : List Oper} {over : List Nat} {i : Nat}
/-- One operation of the text. -/
def stp (P : Program) (F : Fr) (S : Hp) (ov : Bool) (o : Oper) (a : Act) (h : Hp) (K : Act → Hp → Prop) : Prop :=
  StK P F S (if ov then overKind o.op else kindOf o.op) (execOp a.eval o) h (fun v h' => K (a.put o.dst v) h')
def TI (P : Program) (F : Fr) (S : Hp) (ops : Array Oper) (K : Act → Hp → Prop) (over : List Nat) : Nat → List Oper → Act → Hp → Prop
  | _, [], a, h => K a h
  | i, o :: r, a, h => if Region.wanted o (yielded ops a.tmps) = true then stp P F S (over.contains i) o a h (TI P F S ops K over (i + 1) r) else TI P F S ops K over (i + 1) r (a.put o.dst undef) h
theorem TI_eq : ∀ (l : List Oper) (i : Nat) (a : Act) (h : Hp), T P F S ops K ((l.zipIdx i).map fun oi => (if over.contains oi.2 then overKind oi.1.op else kindOf oi.1.op, oi.1)) a h = TI P F S ops K over i l a h := by
  intro l
  induction l with
  | nil => exact fun _ _ _ => rfl
  | cons o r ih =>
    intro i a h
    simp only [List.zipIdx_cons, List.map_cons, T, TI, St, stp]
    have e : T P F S ops K ((r.zipIdx (i + 1)).map fun oi => (if over.contains oi.2 then overKind oi.1.op else kindOf oi.1.op, oi.1)) = TI P F S ops K over (i + 1) r := by
      funext a h; exact ih (i + 1) a h
    rw [e]
/-- A region that draws, walked in the order of the text. -/
theorem DDraw.walk {id : Nat} {l : List Oper} {K : Act → Hp → Prop} {a : Act} {h : Hp} (over : List Nat) (S : Hp) (hm : P.follows .mixedOrders = true) (hok : okDraw over l = true) (hS : ∀ g o, S.own g = some o → h.own g = some o)
    (ht : TI P F S l.toArray K over 0 l a h) : DDraw P F id l.toArray K a h :=
  DDraw.of over S hm hok hS (by unfold items; rw [TI_eq]; exact ht)
theorem TI_nil : TI P F S ops K over i [] a h = K a h := rfl
/-- The rest of a region. -/
def TR (P : Program) (F : Fr) (S : Hp) (ops : Array Oper) (K : Act → Hp → Prop) (over : List Nat) (i : Nat) (l : List Oper) (a : Act) (h : Hp) : Prop := TI P F S ops K over i l a h
theorem TR_app {t : Array Value} {ds : List Deferred} : TR P F S ops K over i l ⟨t, ds⟩ h = TI P F S ops K over i l ⟨t, ds⟩ h := rfl
def GuardD (P : Program) (F : Fr) (S : Hp) (ov : Bool) (R : Act → Hp → Prop) (o : Oper) (a : Act) (h : Hp) (b : Bool) : Option Bool → Prop
  | some c => (c = b → stp P F S ov o a h R) ∧ (c = (!b) → R (a.put o.dst undef) h)
  | none => R (a.put o.dst undef) h
section
variable {R : Act → Hp → Prop} {ov : Bool}
theorem GuardD_tt : GuardD P F S ov R o a h true (some true) = stp P F S ov o a h R := by simp [GuardD]
theorem GuardD_ff : GuardD P F S ov R o a h false (some false) = stp P F S ov o a h R := by simp [GuardD]
theorem GuardD_tf : GuardD P F S ov R o a h true (some false) = R (a.put o.dst undef) h := by simp [GuardD]
theorem GuardD_ft : GuardD P F S ov R o a h false (some true) = R (a.put o.dst undef) h := by simp [GuardD]
theorem GuardD_none {b : Bool} : GuardD P F S ov R o a h b none = R (a.put o.dst undef) h := rfl
theorem GuardD.split {b c : Bool} (h1 : c = b → stp P F S ov o a h R) (h2 : c = (!b) → R (a.put o.dst undef) h) : GuardD P F S ov R o a h b (some c) := ⟨h1, h2⟩
def GuardL (P : Program) (F : Fr) (S : Hp) (ops : Array Oper) (ov : Bool) (R : Act → Hp → Prop) (o : Oper) (a : Act) (h : Hp) : Option (Nat × Bool) → Prop
  | none => stp P F S ov o a h R
  | some (j, b) => GuardD P F S ov R o a h b (yielded ops a.tmps j)
theorem GuardL_none : GuardL P F S ops ov R o a h none = stp P F S ov o a h R := rfl
theorem GuardL_some {j : Nat} {b : Bool} : GuardL P F S ops ov R o a h (some (j, b)) = GuardD P F S ov R o a h b (yielded ops a.tmps j) := rfl
end
theorem TI_cons : TI P F S ops K over i (o :: l) a h = GuardL P F S ops (over.contains i) (TR P F S ops K over (i + 1) l) o a h o.guard := by
  cases hg : o.guard with
  | none => simp only [TI, Region.wanted, hg, if_true, GuardL]; rfl
  | some jb =>
    obtain ⟨j, b⟩ := jb
    simp only [TI, Region.wanted, hg, GuardL]
    cases hy : yielded ops a.tmps j with
    | none => simp only [GuardD]; rw [if_neg (by simp)]; rfl
    | some c =>
      simp only [GuardD]
      cases c <;> cases b <;> simp <;> rfl
end
section
variable {P : Program} {F : Fr} {S h : Hp} {a : Act} {K : Act → Hp → Prop} {dst : Option Tmp} {ty : TypeId} {pos : String} {af : Array Edge} {g : Option (Nat × Bool)}
def PutK (a : Act) (dst : Option Tmp) (K : Act → Hp → Prop) (v : Value) (h : Hp) : Prop := K (a.put dst v) h
theorem PutK_app {v : Value} : PutK a dst K v h = K (a.put dst v) h := rfl
theorem EvK_value {K : Value → Hp → Prop} {v : Value} : EvK P F S K h (some (.value v)) = K v h := rfl
theorem EvK_skip {K : Value → Hp → Prop} : EvK P F S K h (some .skip) = K undef h := rfl
def CallV (P : Program) (F : Fr) (S : Hp) (f : FuncId) (args : Array Value) (K : Value → Hp → Prop) (h : Hp) : Prop := ∃ v, CV P F S f args v ∧ K v h
theorem EvK_enter {K : Value → Hp → Prop} {f : FuncId} {args : Array Value} : EvK P F S K h (some (.enter f args)) = CallV P F S f args K h := rfl
theorem CallV.of1 {K : Value → Hp → Prop} {f : FuncId} {args : Array Value} {v : Value} (c : C1 P f args v) (hi : P.inits.idxOf? f = none) (hk : K v h) : CallV P F S f args K h :=
  ⟨v, ⟨hi, fun _ _ _ hk' => c.call hk'⟩, hk⟩
theorem stp_nilCheck (x : Operand) : stp P F S false ⟨dst, .nilCheck x, ty, pos, af, g⟩ a h K = EvK P F S (PutK a dst K) h (rval P F (execOp a.eval ⟨dst, .nilCheck x, ty, pos, af, g⟩) S) := rfl
theorem stp_binOp (b : BinOp) (t : TypeId) (x y : Operand) (u : TypeId) : stp P F S false ⟨dst, .binOp b t x y u, ty, pos, af, g⟩ a h K = EvK P F S (PutK a dst K) h (rval P F (execOp a.eval ⟨dst, .binOp b t x y u, ty, pos, af, g⟩) S) := rfl
theorem stp_unOp (b : UnOp) (t : TypeId) (x : Operand) : stp P F S false ⟨dst, .unOp b t x, ty, pos, af, g⟩ a h K = EvK P F S (PutK a dst K) h (rval P F (execOp a.eval ⟨dst, .unOp b t x, ty, pos, af, g⟩) S) := rfl
theorem stp_convert (s d : TypeId) (x : Operand) : stp P F S false ⟨dst, .convert s d x, ty, pos, af, g⟩ a h K = EvK P F S (PutK a dst K) h (rval P F (execOp a.eval ⟨dst, .convert s d x, ty, pos, af, g⟩) S) := rfl
theorem stp_makeFunc (f : Fn) (x y : Array Operand) : stp P F S false ⟨dst, .makeFunc f x y, ty, pos, af, g⟩ a h K = EvK P F S (PutK a dst K) h (rval P F (execOp a.eval ⟨dst, .makeFunc f x y, ty, pos, af, g⟩) S) := rfl
theorem stp_slice (t : TypeId) (x : Operand) (l m n : Option Operand) : stp P F S false ⟨dst, .slice t x l m n, ty, pos, af, g⟩ a h K = EvK P F S (PutK a dst K) h (rval P F (execOp a.eval ⟨dst, .slice t x l m n, ty, pos, af, g⟩) S) := rfl
theorem stp_fieldAddr (t : TypeId) (x : Operand) (i : Nat) : stp P F S false ⟨dst, .fieldAddr t x i, ty, pos, af, g⟩ a h K = EvK P F S (PutK a dst K) h (rval P F (execOp a.eval ⟨dst, .fieldAddr t x i, ty, pos, af, g⟩) S) := rfl
theorem stp_field (t : TypeId) (x : Operand) (i : Nat) : stp P F S false ⟨dst, .field t x i, ty, pos, af, g⟩ a h K = EvK P F S (PutK a dst K) h (rval P F (execOp a.eval ⟨dst, .field t x i, ty, pos, af, g⟩) S) := rfl
theorem stp_indexAddr (t : TypeId) (x y : Operand) : stp P F S false ⟨dst, .indexAddr t x y, ty, pos, af, g⟩ a h K = EvK P F S (PutK a dst K) h (rval P F (execOp a.eval ⟨dst, .indexAddr t x y, ty, pos, af, g⟩) S) := rfl
theorem stp_index (t : TypeId) (x y : Operand) : stp P F S false ⟨dst, .index t x y, ty, pos, af, g⟩ a h K = EvK P F S (PutK a dst K) h (rval P F (execOp a.eval ⟨dst, .index t x y, ty, pos, af, g⟩) S) := rfl
theorem stp_extract (x : Operand) (i : Nat) : stp P F S false ⟨dst, .extract x i, ty, pos, af, g⟩ a h K = EvK P F S (PutK a dst K) h (rval P F (execOp a.eval ⟨dst, .extract x i, ty, pos, af, g⟩) S) := rfl
theorem stp_load (t : TypeId) (x : Operand) : stp P F S false ⟨dst, .load t x, ty, pos, af, g⟩ a h K = EvK P F S (PutK a dst K) h (rval P F (execOp a.eval ⟨dst, .load t x, ty, pos, af, g⟩) S) := rfl
theorem stp_callv (x : Operand) (y : Array Operand) (z : Array TypeId) : stp P F S false ⟨dst, .call ⟨.value x, y, z⟩, ty, pos, af, g⟩ a h K = EvK P F S (PutK a dst K) h (rval P F (execOp a.eval ⟨dst, .call ⟨.value x, y, z⟩, ty, pos, af, g⟩) S) := rfl
theorem stp_len (y : Array Operand) (z : Array TypeId) : stp P F S false ⟨dst, .call ⟨.builtin .len, y, z⟩, ty, pos, af, g⟩ a h K = EvK P F S (PutK a dst K) h (rval P F (execOp a.eval ⟨dst, .call ⟨.builtin .len, y, z⟩, ty, pos, af, g⟩) S) := rfl
theorem stp_min (y : Array Operand) (z : Array TypeId) : stp P F S false ⟨dst, .call ⟨.builtin .min, y, z⟩, ty, pos, af, g⟩ a h K = EvK P F S (PutK a dst K) h (rval P F (execOp a.eval ⟨dst, .call ⟨.builtin .min, y, z⟩, ty, pos, af, g⟩) S) := rfl
theorem stp_max (y : Array Operand) (z : Array TypeId) : stp P F S false ⟨dst, .call ⟨.builtin .max, y, z⟩, ty, pos, af, g⟩ a h K = EvK P F S (PutK a dst K) h (rval P F (execOp a.eval ⟨dst, .call ⟨.builtin .max, y, z⟩, ty, pos, af, g⟩) S) := rfl
theorem stp_move (x : Operand) : stp P F S false ⟨dst, .move x, ty, pos, af, g⟩ a h K = K (a.put dst (a.eval x)) h := rfl
theorem stp_assign (x : Operand) : stp P F S false ⟨dst, .assign x, ty, pos, af, g⟩ a h K = K (a.put dst (a.eval x)) h := rfl
theorem stp_pick (c x y : Operand) : stp P F S false ⟨dst, .pick c x y, ty, pos, af, g⟩ a h K = PickK a dst K (a.eval x) (a.eval y) h (a.eval c) := by
  show EvK P F S (PutK a dst K) h (rval P F (execOp a.eval ⟨dst, .pick c x y, ty, pos, af, g⟩) S) = _
  simp only [execOp]
  cases a.eval c <;> rfl
/-- The end of an operation that calls nothing, in a region that draws. -/
def BiK (F : Fr) (S : Hp) (a : Act) (dst : Option Tmp) (K : Act → Hp → Prop) (v : Value) (h : Hp) : Prop := Inv F S h ∧ K (a.put dst v) h
theorem BiK_app {v : Value} : BiK F S a dst K v h = (Inv F S h ∧ K (a.put dst v) h) := rfl
theorem bfin_value {K : Value → Hp → Prop} {v : Value} : bfin K (.value v) h = K v h := rfl
/-- What is read of the state as it is. -/
def RdK (K : Value → Hp → Prop) (h : Hp) : Option Next → Prop
  | some (.value v) => K v h
  | _ => False
theorem RdK_value {K : Value → Hp → Prop} {v : Value} : RdK K h (some (.value v)) = K v h := rfl
theorem stp_rd (t : TypeId) (x : Operand) : stp P F S true ⟨dst, .load t x, ty, pos, af, g⟩ a h K = RdK (PutK a dst K) h (rval P F (execOp a.eval ⟨dst, .load t x, ty, pos, af, g⟩) h) := by
  show (∃ v, _ ∧ _) = _
  apply propext
  constructor
  · rintro ⟨v, h1, h2⟩
    rw [h1]
    exact h2
  · intro hh
    cases e : rval P F (execOp a.eval ⟨dst, .load t x, ty, pos, af, g⟩) h with
    | none => rw [e] at hh; exact hh.elim
    | some n =>
      rw [e] at hh
      cases n <;> first | exact (hh : False).elim | exact ⟨_, rfl, hh⟩
theorem bi_same {Q : Prop} (hq : Q) : Inv F S h → Inv F S h ∧ Q := fun hi => ⟨hi, hq⟩
/-- A slice is appended to. -/
def AppD (P : Program) (F : Fr) (a : Act) (dst : Option Tmp) (K : Act → Hp → Prop) (ts : Array TypeId) (ty : TypeId) (u v : Value) (h : Hp) : Prop := dwp P F (Builtin.append_ ts ty #[u, v]) h (fun w h' => K (a.put dst w) h')
theorem exec_append (ρ : Operand → Value) (x y : Operand) (ts : Array TypeId) : execOp ρ ⟨dst, .call ⟨.builtin .append, #[x, y], ts⟩, ty, pos, af, g⟩ = (Builtin.append_ ts ty #[ρ x, ρ y] >>= fun v => (pure (Next.value v) : Sem Next)) := by
  simp only [execOp, resolve, invoke, builtin, pure_bind, List.map_toArray, List.map_cons, List.map_nil]
theorem dop_append (x y : Operand) (ts : Array TypeId) : dop P F ⟨dst, .call ⟨.builtin .append, #[x, y], ts⟩, ty, pos, af, g⟩ a h K = AppD P F a dst K ts ty (a.eval x) (a.eval y) h := by
  unfold dop AppD
  rw [exec_append, dwp_bind']
  rfl
def InvK (F : Fr) (S : Hp) (K : Act → Hp → Prop) (a : Act) (h : Hp) : Prop := Inv F S h ∧ K a h
theorem InvK_app {a : Act} : InvK F S K a h = (Inv F S h ∧ K a h) := rfl
theorem stp_append (x y : Operand) (ts : Array TypeId) : stp P F S false ⟨dst, .call ⟨.builtin .append, #[x, y], ts⟩, ty, pos, af, g⟩ a h K =
  (Inv F S h → AppD P F a dst (InvK F S K) ts ty (a.eval x) (a.eval y) h) := by
  show (Inv F S h → dwp P F (execOp a.eval ⟨dst, .call ⟨.builtin .append, #[x, y], ts⟩, ty, pos, af, g⟩) h (bfin (BiK F S a dst K))) = _
  unfold AppD
  rw [exec_append, dwp_bind']
  rfl
/-! ### Blocks are made -/
theorem StK_al {s : Sem Next} {ob : Obj} {v : Nat → Value} {K : Value → Hp → Prop} (hAL : AL P F s ob v) : StK P F S .al s h K = NewK F ob (fun g h' => K (v g) h') h := by
  apply propext
  constructor
  · rintro ⟨ob', v', h1, h2⟩
    exact (hAL h K).1 ((h1 h K).2 h2)
  · exact fun hh => ⟨ob, v, hAL, hh⟩
theorem stp_box (t : TypeId) (x : Operand) : stp P F S false ⟨dst, .box t x, ty, pos, af, g⟩ a h K = NewK F (.cells (a.eval x).cells t) (PtrN a dst K) h :=
  StK_al (ob := .cells (a.eval x).cells t) (v := fun g => .pointer (some ⟨g, 0, none⟩)) (fun _ _ => Iff.rfl)
theorem stp_alloc (t : TypeId) : stp P F S false ⟨dst, .alloc t, ty, pos, af, g⟩ a h K = dwp P F (zeroValue t) h (AlZ F a dst K t) := by
  rw [dwp_zeroValue]
  show StK P F S .al _ h _ = _
  cases hz : (P.info? t).bind (·.zero) with
  | some z =>
    refine StK_al (ob := .cells z.cells t) (v := fun g => .pointer (some ⟨g, 0, none⟩)) (fun h K => ?_)
    have := dop_alloc (P := P) (F := F) (h := h) (a := a) (K := fun a' h' => ∃ v, a' = a.put dst v ∧ K v h') (dst := dst) (ty := ty) (pos := pos) (af := af) (g := g) t
    unfold vop
    simp only [execOp, Instr.alloc, newVar, newRow]
    rw [dwp_bind', dwp_bind', dwp_zeroValue, hz]
    exact Iff.rfl
  | none =>
    apply propext
    constructor
    · rintro ⟨ob, v, h1, h2⟩
      have h3 := (h1 h (fun _ _ => True)).2 (fun _ _ _ => trivial)
      unfold vop at h3
      simp only [execOp, Instr.alloc, newVar, newRow] at h3
      rw [dwp_bind', dwp_bind', dwp_zeroValue, hz] at h3
      exact h3
    · exact fun hh => hh.elim

/-! ### A block is written -/
def IgnK (K : Hp → Prop) (_ : Act) (h : Hp) : Prop := K h
theorem IgnK_app {K : Hp → Prop} : IgnK K a h = K h := rfl
def WrB (P : Program) (F : Fr) (S : Hp) (o : Oper) (a : Act) (K : Act → Hp → Prop) (h : Hp) (b : Nat) : Option Obj → Prop
  | some ob => S.own b = none ∧ ∃ ob', (∀ h', h'.own b = some ob → ∀ K' : Hp → Prop, K' (h'.set b ob') → dop P F o a h' (IgnK K')) ∧ (∀ h', h'.own b = some ob → ∀ K' : Hp → Prop, dop P F o a h' (IgnK K') → K' (h'.set b ob')) ∧ (∀ h', h'.own b = none → dop P F o a h' (IgnK fun _ => True) → False) ∧ K a (h.set b ob')
  | none => False
theorem WrB.intro {o : Oper} {b : Nat} {ob : Obj} (ob' : Obj) (h1 : S.own b = none) (h2 : ∀ h', h'.own b = some ob → ∀ K' : Hp → Prop, K' (h'.set b ob') → dop P F o a h' (IgnK K'))
    (h4 : ∀ h', h'.own b = some ob → ∀ K' : Hp → Prop, dop P F o a h' (IgnK K') → K' (h'.set b ob')) (h5 : ∀ h', h'.own b = none → dop P F o a h' (IgnK fun _ => True) → False) (h3 : K a (h.set b ob')) : WrB P F S o a K h b (some ob) := ⟨h1, ob', h2, h4, h5, h3⟩
def WrA (P : Program) (F : Fr) (S : Hp) (o : Oper) (a : Act) (K : Act → Hp → Prop) (h : Hp) : Value → Prop
  | .pointer (some ad) => WrB P F S o a K h ad.block (h.own ad.block)
  | _ => False
theorem WrA_some {o : Oper} {ad : Addr} : WrA P F S o a K h (.pointer (some ad)) = WrB P F S o a K h ad.block (h.own ad.block) := rfl
theorem stp_store {t : TypeId} {x y : Operand} : WrA P F S ⟨none, .store t x y, ty, pos, af, g⟩ a K h (a.eval x) → stp P F S false ⟨none, .store t x y, ty, pos, af, g⟩ a h K := by
  intro H
  cases hx : a.eval x <;> rw [hx] at H <;> try exact H.elim
  rename_i p
  cases p with
  | none => exact H.elim
  | some ad =>
    rw [WrA_some] at H
    cases ho : h.own ad.block with
    | none => rw [ho] at H; exact H.elim
    | some ob =>
      rw [ho] at H
      obtain ⟨h1, ob', h2, h4, h5, h3⟩ := H
      refine ⟨ad.block, ob, ob', ho, ⟨fun h' ho' K' hk => ?_, fun h' ho' K' hk => ?_, fun h' ho' K' hk => ?_⟩, h1, fun v => h3⟩
      · have h4 := h2 h' ho' (fun h'' => ∀ v, K' v h'') hk
        rw [dop_vop] at h4
        exact vop_mono (fun v h'' hh => hh v) h4
      · refine h5 h' ho' ?_
        rw [dop_vop]
        exact vop_mono (fun v h'' hh => trivial) hk
      · refine h4 h' ho' (fun h'' => ∃ v, K' v h'') ?_
        rw [dop_vop]
        exact vop_mono (fun v h'' hh => ⟨v, hh⟩) hk
/-- What is there already is written. -/
def NsB (P : Program) (F : Fr) (o : Oper) (a : Act) (K : Act → Hp → Prop) (h : Hp) (b : Nat) : Option Obj → Prop
  | some ob => (∀ h', h'.own b = some ob → ∀ K' : Hp → Prop, K' (h'.set b ob) → dop P F o a h' (IgnK K')) ∧ K a h
  | none => False
theorem NsB.intro {o : Oper} {b : Nat} {ob : Obj} (h2 : ∀ h', h'.own b = some ob → ∀ K' : Hp → Prop, K' (h'.set b ob) → dop P F o a h' (IgnK K')) (h3 : K a h) : NsB P F o a K h b (some ob) := ⟨h2, h3⟩
def NsA (P : Program) (F : Fr) (S : Hp) (o : Oper) (a : Act) (K : Act → Hp → Prop) (h : Hp) : Value → Prop
  | .pointer (some ad) => NsB P F o a K h ad.block (S.own ad.block)
  | _ => False
theorem NsA_some {o : Oper} {ad : Addr} : NsA P F S o a K h (.pointer (some ad)) = NsB P F o a K h ad.block (S.own ad.block) := rfl
theorem set_same {h : Hp} {g : Nat} {o : Obj} (e : h.own g = some o) : h.set g o = h := by
  unfold Hp.set
  cases h
  congr 1
  funext k
  split
  · rename_i hk; subst hk; exact e.symm
  · rfl
theorem u_skip {s : Sem Unit} {h : Hp} {Q : Next → Hp → Prop} : dwp P F (s >>= fun _ => (pure Next.skip : Sem Next)) h Q = dwp P F s h (fun _ h' => Q .skip h') := by
  rw [dwp_bind']; rfl
theorem stp_ns {t : TypeId} {x y : Operand} : NsA P F S ⟨none, .store t x y, ty, pos, af, g⟩ a K h (a.eval x) → stp P F S true ⟨none, .store t x y, ty, pos, af, g⟩ a h K := by
  intro H
  cases hx : a.eval x <;> rw [hx] at H <;> try exact H.elim
  rename_i p
  cases p with
  | none => exact H.elim
  | some ad =>
    rw [NsA_some] at H
    cases ho : S.own ad.block with
    | none => rw [ho] at H; exact H.elim
    | some ob =>
      rw [ho] at H
      obtain ⟨h2, h3⟩ := H
      refine ⟨fun h' hi K' hk => ?_, h3⟩
      have ho' := hi.keep _ _ ho
      have h4 := h2 h' ho' (fun h'' => K' undef h'') (by rw [set_same ho']; exact hk)
      unfold dop at h4
      unfold vop
      simp only [execOp] at h4 ⊢
      rw [u_skip] at h4 ⊢
      exact h4
end
/-! ### A struct or an array out of its parts -/
section
variable {α β : Type} {P : Program} {F : Fr} {S h : Hp}
/-- A tree that reads at most. -/
def rdr {α : Type} : Sem α → Prop
  | .pure _ => True
  | .load _ _ k => ∀ v, rdr (k v)
  | .program k => ∀ p, rdr (k p)
  | .mark _ k => rdr k
  | .halt _ => True
  | _ => False
theorem rdr.rval {K : α → Hp → Prop} : ∀ (s : Sem α), rdr s → dwp P F s S K → ∃ n, SL.rval P F s S = some n ∧ K n S := by
  intro s
  induction s with
  | pure a => exact fun _ hk => ⟨a, rfl, hk⟩
  | load m p k ih =>
    intro hr hk
    simp only [dwp, SL.rval] at hk ⊢
    cases hc : S.cell? F p with
    | none => rw [hc] at hk; exact hk.elim
    | some v => rw [hc] at hk; exact ih v (hr v) hk
  | program k ih => exact fun hr hk => ih _ (hr _) hk
  | mark m k ih => exact fun hr hk => ih hr hk
  | halt x => exact fun _ hk => hk.elim
  | _ => intro hr; exact hr.elim
theorem rdr.bind {f : α → Sem β} : ∀ (s : Sem α), rdr s → (∀ a, rdr (f a)) → rdr (s >>= f) := by
  intro s
  induction s with
  | pure a => exact fun _ hf => hf a
  | load m p k ih => exact fun hr hf v => ih v (hr v) hf
  | program k ih => exact fun hr hf p => ih p (hr p) hf
  | mark m k ih => exact fun hr hf => ih hr hf
  | halt x => exact fun _ _ => trivial
  | _ => intro hr; exact hr.elim
theorem rdr.info {f : TypeInfo → Sem β} (t : TypeId) (hf : ∀ i, rdr (f i)) : rdr (typeInfo t >>= f) := by
  refine rdr.bind _ ?_ hf
  unfold typeInfo
  intro p
  show rdr (match p.info? t with | some i => pure i | none => stuck "no such type")
  cases p.info? t <;> trivial
theorem rdr.under (t : TypeId) : rdr (underlying t) := by
  unfold underlying
  intro p
  show rdr (match p.underlying t with | some d => pure d | none => stuck "no such type")
  cases p.underlying t <;> trivial
theorem rdr.zero (t : TypeId) : rdr (zeroValue t) := by
  unfold zeroValue
  refine rdr.info t fun i => ?_
  show rdr (match i.zero with | some v => pure v | none => unsupported (.resourceLimit "a value of more than 2^22 cells"))
  cases i.zero <;> trivial
theorem rdr.size (t : TypeId) : rdr (sizeOf t) := by
  unfold sizeOf
  exact rdr.info t fun i => trivial
theorem rdr.mapM {f : α → Sem β} (hf : ∀ a, rdr (f a)) : ∀ (l : List α), rdr (l.mapM f) := by
  intro l
  induction l with
  | nil => rw [List.mapM_nil]; trivial
  | cons a l ih =>
    rw [List.mapM_cons]
    exact rdr.bind _ (hf a) fun b => rdr.bind _ ih fun _ => trivial
theorem rdr.build (t : TypeId) (parts : Array (Nat × Value)) : rdr (Instr.build t parts) := by
  unfold Instr.build
  refine rdr.bind _ (rdr.zero t) fun z => rdr.bind _ (rdr.under t) fun d => ?_
  cases d <;> try exact trivial
  · refine rdr.bind _ (rdr.size _) fun s => ?_
    split <;> trivial
  · refine rdr.bind _ ?_ fun l => ?_
    · rw [Array.mapM_eq_mapM_toList]
      rw [map_eq_pure_bind]
      refine rdr.bind _ (rdr.mapM (fun x => ?_) _) fun _ => ?_
      · refine rdr.bind _ (rdr.size _) fun _ => ?_
        exact True.intro
      · exact True.intro
    · split <;> trivial
/-- Of the state as it is. -/
def AtK (K : Act → Hp → Prop) (h : Hp) (a : Act) (_ : Hp) : Prop := K a h
theorem AtK_app {K : Act → Hp → Prop} {a : Act} {h' : Hp} : AtK K h a h' = K a h := rfl
theorem stp_build {a : Act} {K : Act → Hp → Prop} {dst : Option Tmp} {ty : TypeId} {pos : String} {af : Array Edge} {g : Option (Nat × Bool)} {t : TypeId} {parts : Array (Nat × Operand)} :
    dwp P F (zeroValue t) S (BD1 P F a dst (AtK K h) t (parts.toList.map fun p => (p.1, a.eval p.2))) → stp P F S false ⟨dst, .build t parts, ty, pos, af, g⟩ a h K := by
  intro H
  have h1 := dop_build (ty := ty) (pos := pos) (af := af) (g := g) H
  unfold dop at h1
  simp only [execOp] at h1
  have hr : rdr (Instr.build t (parts.map fun x => (x.1, a.eval x.2)) >>= fun v => pure (Next.value v)) := rdr.bind _ (rdr.build _ _) fun _ => True.intro
  obtain ⟨n, e, hk⟩ := rdr.rval _ hr h1
  show EvK P F S (PutK a dst K) h (SL.rval P F (execOp a.eval ⟨dst, .build t parts, ty, pos, af, g⟩) S)
  simp only [execOp]
  rw [e]
  have hv : ∃ v, n = .value v := by
    rw [rval_bind'] at e
    cases hb : SL.rval P F (Instr.build t (parts.map fun x => (x.1, a.eval x.2))) S with
    | none => rw [hb] at e; cases e
    | some v => rw [hb] at e; exact ⟨v, by simpa [RB, rval_pure', eq_comm] using e⟩
  obtain ⟨v, rfl⟩ := hv
  exact hk
end
end Go.SL
