/-
  A walk over a part of memory: what a call owns and what it may read. Conditions: none. Plain theorems and definitions.
-/
import Derived.Test.YtlbpfmnobapidaaS8
import Derived.WalkKit
import Derived.ProofKit
import Derived.OpenShut
import Derived.ShutString
import Derived.ChangeOld
import Derived.Laws.Append
set_option linter.unusedVariables false
set_option linter.unusedSimpArgs false
set_option linter.unusedVariables false
set_option linter.unusedSimpArgs false
namespace Go.SL
open Go.RowKit Go.ChangeShapes Go.WideShapes Go.ChangeAt
section
variable {H : Type} {enc : TypeId × Value → H} {P : Program} {w w' : World} {base base' : Nat} {spare spare' : Nat → Bool} {held held' : Bool} {t e n : Nat} {k : IntKind}
theorem trod_int_any (he : P.underlying e = some (.int k)) (fuel : Nat) (cs : List Value) :
    DataW.trod enc P w base spare held fuel e cs = DataW.trod enc P w' base' spare' held' fuel e cs := by
  cases fuel with
  | zero => rfl
  | succ m =>
    unfold DataW.trod
    rw [he]
    cases cs with
    | nil => rfl
    | cons v r => cases v <;> cases r <;> rfl
theorem trod_arr_any (ht : P.underlying t = some (.array n e)) (he : P.underlying e = some (.int k)) (fuel : Nat) (cs : List Value) :
    DataW.trod enc P w base spare held fuel t cs = DataW.trod enc P w' base' spare' held' fuel t cs := by
  cases fuel with
  | zero => rfl
  | succ m =>
    unfold DataW.trod
    rw [ht]
    have : (fun i => DataW.trod enc P w base spare held m e ((cs.drop (i * P.cellsOf e)).take (P.cellsOf e))) = (fun i => DataW.trod enc P w' base' spare' held' m e ((cs.drop (i * P.cellsOf e)).take (P.cellsOf e))) := by
      funext i; exact trod_int_any he m _
    simp only [this]
theorem ints_of {cs : List Value} : (∀ i, i < cs.length → ∃ x, cs[i]? = some (.int k x) ∧ (Lit.int k x).wf = true) → ∃ xs : List Int, cs = xs.map (Value.int k) ∧ ∀ x ∈ xs, (Lit.int k x).wf = true := by
  induction cs with
  | nil => exact fun _ => ⟨[], rfl, by simp⟩
  | cons v r ih =>
    intro h
    obtain ⟨x, hx, hw⟩ := h 0 (by simp)
    obtain ⟨xs, hr, hws⟩ := ih (fun i hi => by have := h (i + 1) (by simp; omega); simpa using this)
    simp only [List.getElem?_cons_zero, Option.some.injEq] at hx
    refine ⟨x :: xs, by rw [hx, hr]; rfl, ?_⟩
    intro y hy
    rcases List.mem_cons.1 hy with rfl | hy
    · exact hw
    · exact hws y hy
theorem flat_nil {α β : Type} {xs : List (α × List β)} : (∀ x ∈ xs, x.2 = []) → xs.flatMap (·.2) = [] := by
  intro h
  exact List.flatMap_eq_nil_iff.2 h
/-- An array of integers that came in. -/
theorem open_arr {r : Reach} {b0 : Nat} {v : Value} {d : DataW H} {ps : List MemPlace} (ht : P.underlying t = some (.array n e)) (he : P.underlying e = some (.int k)) (hc : P.cellsOf e = 1) (hct : P.cellsOf t = n)
    (hval : Value.okWide P w r b0 t v) (hd : DataW.Trod enc P w base spare held t v d ps) :
    ∃ xs : List Int, xs.length = n ∧ v = .agg (xs.map (Value.int k)).toArray ∧ d = .agg (xs.map fun x => DataW.lit (.int k x)) ∧ ps = [] ∧ (∀ x ∈ xs, (Lit.int k x).wf = true) ∧
      ∀ (W' : World) (b : Nat) (sp : Nat → Bool) (hh : Bool), DataW.Trod enc P W' b sp hh t v d [] := by
  obtain ⟨cs, rfl, hsz⟩ : ∃ cs, v = .agg cs ∧ cs.size = n := by
    have := hval
    unfold Value.okWide at this
    rw [ht] at this
    cases v <;> simp_all
  obtain ⟨fuel, hf⟩ := hd
  obtain ⟨l⟩ := cs
  simp only [Value.cells] at hf
  obtain ⟨ys, m, rfl, hx, hl, hn, hi⟩ := DataW.trod_array ht hf
  simp only [List.size_toArray] at hsz
  rw [hc] at hi
  have key : ∀ i, i < n → ∃ x, l[i]? = some (.int k x) ∧ ys[i]? = some (.lit (.int k x), []) ∧ (Lit.int k x).wf = true := by
    intro i hlt
    have h1 := hi i hlt
    have hy : ys[i]? = some (ys[i]'(by omega)) := List.getElem?_eq_getElem (by omega)
    rw [hy] at h1
    obtain ⟨x, hcs, hxy, hw⟩ := DataW.trod_int he h1
    refine ⟨x, ?_, by rw [hy, hxy], hw⟩
    have h2 : ((l.drop (i * 1)).take 1)[0]? = some (.int k x) := by rw [hcs]; rfl
    rw [List.getElem?_take_of_lt (by omega), List.getElem?_drop] at h2
    simpa using h2
  obtain ⟨xs, rfl, hw⟩ := ints_of (k := k) (cs := l) (fun i hlt => by obtain ⟨x, h1, _, h3⟩ := key i (by omega); exact ⟨x, h1, h3⟩)
  have hps : ps = [] := by
    rw [Prod.mk.injEq] at hx
    rw [hx.2]
    refine flat_nil fun y hy => ?_
    obtain ⟨i, hlt, hyi⟩ := List.getElem_of_mem hy
    obtain ⟨x, _, h2, _⟩ := key i (by omega)
    rw [List.getElem?_eq_getElem hlt, hyi] at h2
    simp only [Option.some.injEq] at h2
    rw [h2]
  subst hps
  have hd : d = .agg (xs.map fun x => DataW.lit (.int k x)) := by
    rw [Prod.mk.injEq] at hx
    rw [hx.1]
    congr 1
    apply List.ext_getElem?
    intro i
    simp only [List.length_map] at hsz
    by_cases hlt : i < n
    · obtain ⟨x, h1, h2, _⟩ := key i hlt
      rw [List.getElem?_map, h2]
      rw [List.getElem?_map] at h1
      rw [List.getElem?_map]
      cases hxi : xs[i]? with
      | none => rw [hxi] at h1; cases h1
      | some y =>
        rw [hxi] at h1
        simp only [Option.map_some, Option.some.injEq, Value.int.injEq, true_and] at h1
        subst h1; rfl
    · rw [List.getElem?_eq_none (by simp; omega), List.getElem?_eq_none (by simp; omega)]
  refine ⟨xs, by simpa using hsz, rfl, hd, rfl, hw, fun W' b sp hh => ⟨m + 1, ?_⟩⟩
  simp only [Value.cells]
  rw [← hf]
  exact trod_arr_any ht he _ _
end
theorem wf_u8 {x : Int} (h : (Lit.int .u8 x).wf = true) : 0 ≤ x ∧ x < 256 := by
  simp [Lit.wf, IntKind.min, IntKind.max, IntKind.signed, IntKind.bits] at h
  omega
theorem wf_u16 {x : Int} (h : (Lit.int .u16 x).wf = true) : 0 ≤ x ∧ x < 65536 := by
  simp [Lit.wf, IntKind.min, IntKind.max, IntKind.signed, IntKind.bits] at h
  omega
theorem list2 {α : Type} (l : List α) (h : l.length = 2) : ∃ a b, l = [a, b] := by
  match l, h with
  | [a, b], _ => exact ⟨a, b, rfl⟩
theorem list3 {α : Type} (l : List α) (h : l.length = 3) : ∃ a b c, l = [a, b, c] := by
  match l, h with
  | [a, b, c], _ => exact ⟨a, b, c, rfl⟩
theorem list4 {α : Type} (l : List α) (h : l.length = 4) : ∃ a b c d, l = [a, b, c, d] := by
  match l, h with
  | [a, b, c, d], _ => exact ⟨a, b, c, d, rfl⟩
theorem list5 {α : Type} (l : List α) (h : l.length = 5) : ∃ a b c d e, l = [a, b, c, d, e] := by
  match l, h with
  | [a, b, c, d, e], _ => exact ⟨a, b, c, d, e, rfl⟩
theorem list6 {α : Type} (l : List α) (h : l.length = 6) : ∃ a b c d e f, l = [a, b, c, d, e, f] := by
  match l, h with
  | [a, b, c, d, e, f], _ => exact ⟨a, b, c, d, e, f, rfl⟩
end Go.SL
set_option linter.unusedVariables false
set_option linter.unusedSimpArgs false
namespace Go.SL
open Go.RowKit Go.ChangeShapes Go.WideShapes Go.ChangeAt
/-- Integers of these kinds. -/
def intsAs : List IntKind → List Int → List Value
  | k :: ks, x :: xs => .int k x :: intsAs ks xs
  | _, _ => []
def wfAs : List IntKind → List Int → Prop
  | k :: ks, x :: xs => (Lit.int k x).wf = true ∧ wfAs ks xs
  | _, _ => True
theorem intsAs_append : ∀ {ks ks' : List IntKind} {xs xs' : List Int}, xs.length = ks.length → intsAs (ks ++ ks') (xs ++ xs') = intsAs ks xs ++ intsAs ks' xs'
  | [], _, [], _, _ => rfl
  | k :: ks, ks', x :: xs, xs', h => by
    simp only [List.cons_append, intsAs]
    rw [intsAs_append (by simpa using h)]
theorem wfAs_append : ∀ {ks ks' : List IntKind} {xs xs' : List Int}, xs.length = ks.length → wfAs ks xs → wfAs ks' xs' → wfAs (ks ++ ks') (xs ++ xs')
  | [], _, [], _, _, _, h2 => h2
  | k :: ks, ks', x :: xs, xs', h, h1, h2 => ⟨h1.1, wfAs_append (by simpa using h) h1.2 h2⟩
theorem intsAs_rep {k : IntKind} : ∀ {xs : List Int}, intsAs (List.replicate xs.length k) xs = xs.map (Value.int k)
  | [] => rfl
  | x :: xs => by simp only [List.length_cons, List.replicate_succ, intsAs, List.map_cons, intsAs_rep]
theorem wfAs_rep {k : IntKind} : ∀ {xs : List Int}, (∀ x ∈ xs, (Lit.int k x).wf = true) → wfAs (List.replicate xs.length k) xs
  | [], _ => trivial
  | x :: xs, h => ⟨h x (by simp), wfAs_rep fun y hy => h y (by simp [hy])⟩
/-- A type whose values are integers of these kinds, one behind the other. -/
def Flat (P : Program) (t : TypeId) (ks : List IntKind) : Prop :=
  ∀ (H : Type) (enc : TypeId × Value → H) (w : World) (base : Nat) (spare : Nat → Bool) (held : Bool) (fuel : Nat) (cs : List Value) (x : DataW H × List MemPlace),
    DataW.trod enc P w base spare held fuel t cs = some x →
      (∃ xs : List Int, xs.length = ks.length ∧ cs = intsAs ks xs ∧ wfAs ks xs) ∧ x.2 = [] ∧
      ∀ (w' : World) (base' : Nat) (spare' : Nat → Bool) (held' : Bool), DataW.trod enc P w' base' spare' held' fuel t cs = some x
theorem Flat.int {P : Program} {t : TypeId} {k : IntKind} (ht : P.underlying t = some (.int k)) : Flat P t [k] := by
  intro H enc w base spare held fuel cs x h
  obtain ⟨n, rfl, hx, hw⟩ := DataW.trod_int ht h
  refine ⟨⟨[n], rfl, rfl, hw, trivial⟩, by rw [hx], fun w' b' s' h' => ?_⟩
  rw [← h]
  exact trod_int_any ht _ _
theorem Flat.arr {P : Program} {t e n : Nat} {k : IntKind} (ht : P.underlying t = some (.array n e)) (he : P.underlying e = some (.int k)) (hc : P.cellsOf e = 1) (hct : P.cellsOf t = n) : Flat P t (List.replicate n k) := by
  intro H enc w base spare held fuel cs x h
  obtain ⟨ys, m, rfl, hx, hl, hn, hi⟩ := DataW.trod_array ht h
  rw [hc] at hi
  have key : ∀ i, i < n → ∃ x, cs[i]? = some (.int k x) ∧ ys[i]? = some (.lit (.int k x), []) ∧ (Lit.int k x).wf = true := by
    intro i hlt
    have h1 := hi i hlt
    have hy : ys[i]? = some (ys[i]'(by omega)) := List.getElem?_eq_getElem (by omega)
    rw [hy] at h1
    obtain ⟨x, hcs, hxy, hw⟩ := DataW.trod_int he h1
    refine ⟨x, ?_, by rw [hy, hxy], hw⟩
    have h2 : ((cs.drop (i * 1)).take 1)[0]? = some (.int k x) := by rw [hcs]; rfl
    rw [List.getElem?_take_of_lt (by omega), List.getElem?_drop] at h2
    simpa using h2
  obtain ⟨xs, rfl, hw⟩ := ints_of (k := k) (cs := cs) (fun i hlt => by obtain ⟨x, h1, _, h3⟩ := key i (by omega); exact ⟨x, h1, h3⟩)
  have hlen : xs.length = n := by simpa [hct] using hl
  have hps : x.2 = [] := by
    rw [hx]
    refine flat_nil fun y hy => ?_
    obtain ⟨i, hlt, hyi⟩ := List.getElem_of_mem hy
    obtain ⟨x, _, h2, _⟩ := key i (by omega)
    rw [List.getElem?_eq_getElem hlt, hyi] at h2
    simp only [Option.some.injEq] at h2
    rw [h2]
  subst hlen
  refine ⟨⟨xs, by simp, intsAs_rep.symm, wfAs_rep hw⟩, hps, fun w' b' s' h' => ?_⟩
  rw [← h]
  exact trod_arr_any ht he _ _
inductive FlatFs (P : Program) : Nat → List Field → List IntKind → Prop
  | nil (o : Nat) : FlatFs P o [] []
  | cons {o : Nat} {f : Field} {r : List Field} {ks ks' : List IntKind} (ho : f.offset = o) (hc : P.cellsOf f.type = ks.length) (hf : Flat P f.type ks) (hr : FlatFs P (o + ks.length) r ks') : FlatFs P o (f :: r) (ks ++ ks')
theorem mapM_same {α β : Type} {f g : α → Option β} : ∀ {l : List α}, (∀ a ∈ l, f a = g a) → l.mapM f = l.mapM g
  | [], _ => rfl
  | a :: l, h => by
    rw [List.mapM_cons, List.mapM_cons, h a (by simp), mapM_same fun b hb => h b (by simp [hb])]
theorem FlatFs.all {P : Program} {H : Type} {enc : TypeId × Value → H} {w : World} {base : Nat} {spare : Nat → Bool} {held : Bool} {n : Nat} {cs : List Value} : ∀ {o : Nat} {fl : List Field} {ks : List IntKind}, FlatFs P o fl ks →
    cs.length = o + ks.length → (∀ f ∈ fl, ∃ y, DataW.trod enc P w base spare held n f.type ((cs.drop f.offset).take (P.cellsOf f.type)) = some y) →
    (∃ xs : List Int, xs.length = ks.length ∧ cs.drop o = intsAs ks xs ∧ wfAs ks xs) ∧
    ∀ f ∈ fl, ∀ y, DataW.trod enc P w base spare held n f.type ((cs.drop f.offset).take (P.cellsOf f.type)) = some y → y.2 = [] ∧
      ∀ (w' : World) (base' : Nat) (spare' : Nat → Bool) (held' : Bool), DataW.trod enc P w' base' spare' held' n f.type ((cs.drop f.offset).take (P.cellsOf f.type)) = some y := by
  intro o fl ks h
  induction h with
  | nil o =>
    intro hl _
    refine ⟨⟨[], rfl, ?_, trivial⟩, fun f hf => by simp at hf⟩
    rw [List.drop_eq_nil_of_le (by simp at hl; omega)]; rfl
  | @cons o f r ks ks' ho hc hf hr ih =>
    intro hl hy
    rw [List.length_append] at hl
    obtain ⟨y, hy0⟩ := hy f (by simp)
    obtain ⟨⟨xs, h1, h2, h3⟩, h4, h5⟩ := hf H enc w base spare held n _ y hy0
    obtain ⟨⟨xs', g1, g2, g3⟩, g4⟩ := ih (by omega) (fun f' hf' => hy f' (by simp [hf']))
    refine ⟨⟨xs ++ xs', by simp [h1, g1], ?_, wfAs_append h1 h3 g3⟩, ?_⟩
    · rw [intsAs_append h1, ← h2, ← g2, ho, hc]
      rw [← List.drop_drop]
      exact (List.take_append_drop _ _).symm
    · intro f' hf' y' hy'
      rcases List.mem_cons.1 hf' with rfl | hm
      · rw [hy0] at hy'
        simp only [Option.some.injEq] at hy'
        subst hy'
        exact ⟨h4, h5⟩
      · exact g4 f' hm y' hy'
theorem Flat.struct {P : Program} {t : TypeId} {fs : Array Field} {ks : List IntKind} (ht : P.underlying t = some (.struct fs)) (hc : P.cellsOf t = ks.length) (hf : FlatFs P 0 fs.toList ks) : Flat P t ks := by
  intro H enc w base spare held fuel cs x h
  obtain ⟨ys, n, rfl, hx, hl, hn, hi⟩ := DataW.trod_struct ht h
  have hall : ∀ f ∈ fs.toList, ∃ (i : Nat) (y : DataW H × List MemPlace), ys[i]? = some y ∧ DataW.trod enc P w base spare held n f.type ((cs.drop f.offset).take (P.cellsOf f.type)) = some y := by
    intro f hm
    obtain ⟨i, hlt, hfi⟩ := List.getElem_of_mem hm
    have hlt' : i < fs.size := by simpa using hlt
    have e : fs[i]? = some f := by rw [Array.getElem?_eq_getElem hlt']; simpa using hfi
    have := hi i f e
    have hy : ys[i]? = some (ys[i]'(by omega)) := List.getElem?_eq_getElem (by omega)
    exact ⟨i, _, hy, by rw [this, hy]⟩
  obtain ⟨⟨xs, h1, h2, h3⟩, h4⟩ := hf.all (cs := cs) (by omega) (fun f hm => by obtain ⟨i, y, _, e⟩ := hall f hm; exact ⟨y, e⟩)
  refine ⟨⟨xs, h1, by simpa using h2, h3⟩, ?_, ?_⟩
  · rw [hx]
    refine flat_nil fun y hy => ?_
    obtain ⟨i, hlt, hyi⟩ := List.getElem_of_mem hy
    have hlt' : i < fs.size := by omega
    have e : fs[i]? = some fs[i] := Array.getElem?_eq_getElem hlt'
    have := hi i _ e
    rw [List.getElem?_eq_getElem hlt, hyi] at this
    exact (h4 _ (by simp) _ this).1
  · intro w' b' s' h'
    rw [← h]
    unfold DataW.trod
    rw [ht]
    have : fs.toList.mapM (fun f => DataW.trod enc P w' b' s' h' n f.type ((cs.drop f.offset).take (P.cellsOf f.type))) = fs.toList.mapM (fun f => DataW.trod enc P w base spare held n f.type ((cs.drop f.offset).take (P.cellsOf f.type))) := by
      refine mapM_same fun f hm => ?_
      obtain ⟨i, y, _, e⟩ := hall f hm
      rw [e]
      exact (h4 f hm y e).2 w' b' s' h'
    simp only [this]
theorem open_flat {P : Program} {H : Type} {enc : TypeId × Value → H} {w : World} {base : Nat} {spare : Nat → Bool} {held : Bool} {r : Reach} {b0 : Nat} {t : TypeId} {fs : Array Field} {ks : List IntKind} {v : Value} {d : DataW H} {ps : List MemPlace}
    (ht : P.underlying t = some (.struct fs)) (hf : Flat P t ks) (hval : Value.okWide P w r b0 t v) (hd : DataW.Trod enc P w base spare held t v d ps) :
    ∃ xs : List Int, xs.length = ks.length ∧ v = .agg (intsAs ks xs).toArray ∧ ps = [] ∧ wfAs ks xs ∧
      ∀ (W' : World) (b : Nat) (sp : Nat → Bool) (hh : Bool), DataW.Trod enc P W' b sp hh t v d [] := by
  obtain ⟨cs, rfl⟩ : ∃ cs, v = .agg cs := by
    have := hval
    unfold Value.okWide at this
    rw [ht] at this
    cases v <;> simp_all
  obtain ⟨fuel, h⟩ := hd
  obtain ⟨l⟩ := cs
  simp only [Value.cells] at h
  obtain ⟨⟨xs, h1, rfl, h3⟩, h4, h5⟩ := hf H enc w base spare held fuel _ _ h
  have hps : ps = [] := h4
  subst hps
  exact ⟨xs, h1, rfl, rfl, h3, fun W' b sp hh => ⟨fuel, h5 W' b sp hh⟩⟩
theorem list9 {α : Type} (l : List α) (h : l.length = 9) : ∃ a b c d e f g i j, l = [a, b, c, d, e, f, g, i, j] := by
  match l, h with
  | [a, b, c, d, e, f, g, i, j], _ => exact ⟨a, b, c, d, e, f, g, i, j, rfl⟩
theorem wf_i8 {x : Int} (h : (Lit.int .i8 x).wf = true) : -128 ≤ x ∧ x < 128 := by
  simp [Lit.wf, IntKind.min, IntKind.max, IntKind.signed, IntKind.bits] at h
  omega
end Go.SL
set_option linter.unusedVariables false
set_option linter.unusedSimpArgs false
namespace Go.SL
open Go.RowKit
theorem i64o {n : Int} (h1 : -9223372036854775808 ≤ n) (h2 : n ≤ 9223372036854775807) : IntKind.i64.wrap n = n := IntWalk.i64_in _ ⟨h1, h2⟩
theorem tdivo {a b : Int} (h1 : 0 ≤ a) (h2 : 0 < b) : a.tdiv b = a / b := Int.tdiv_eq_ediv_of_nonneg h1
theorem tmodo {a b : Int} (h1 : 0 ≤ a) : a.tmod b = a % b := Int.tmod_eq_emod_of_nonneg h1
theorem quo_eqo {t : TypeId} {k : IntKind} {a b : Int} (h : b ≠ 0) : binOp .quo t (.int k a) (.int k b) = pure (.int k (k.wrap (a.tdiv b))) := quo_eq (by simpa using h)
theorem rem_eqo {t : TypeId} {k : IntKind} {a b : Int} (h : b ≠ 0) : binOp .rem t (.int k a) (.int k b) = pure (.int k (a.tmod b)) := rem_eq (by simpa using h)
theorem dleT {a b : Int} (h : a ≤ b) : decide (a ≤ b) = true := by simpa using h
theorem dleF {a b : Int} (h : b < a) : decide (a ≤ b) = false := by simpa using h
theorem dltT {a b : Int} (h : a < b) : decide (a < b) = true := by simpa using h
theorem dltF {a b : Int} (h : b ≤ a) : decide (a < b) = false := by simpa using h
theorem deqT {a b : Int} (h : a = b) : decide (a = b) = true := by simpa using h
theorem deqF {a b : Int} (h : a ≠ b) : decide (a = b) = false := by simpa using h
theorem beqT {a b : Int} (h : a = b) : (a == b) = true := by simpa using h
theorem beqF {a b : Int} (h : a ≠ b) : (a == b) = false := by simpa using h
theorem peq0 {a : Int} (h : a ≠ 0) : (a = 0) = False := by simpa using h
theorem bneT {a b : Int} (h : a ≠ b) : (a != b) = true := by simpa using h
theorem bneF {a b : Int} (h : a = b) : (a != b) = false := by simpa using h
theorem readV_len {ro : Addr → Option Value} {b : Nat} : ∀ {n off : Nat} {xs : List Value}, readV ro b off n = some xs → xs.length = n := by
  intro n
  induction n with
  | zero => intro off xs e; simp only [readV, Option.some.injEq] at e; subst e; rfl
  | succ n ih =>
    intro off xs e
    rw [readV_succ] at e
    unfold readVC at e
    split at e
    · cases hr : readV ro b (off + 1) n with
      | none => rw [hr] at e; cases e
      | some r => rw [hr] at e; simp only [Option.map_some, Option.some.injEq] at e; subst e; simp [ih hr]
    · cases e
section
variable {α β : Type} {P : Program} {F : Fr} {h : Hp}
theorem add_none {b off i : Nat} : (⟨b, off, none⟩ : Addr).add i = ⟨b, off + i, none⟩ := by
  unfold Addr.add
  split <;> simp_all
theorem set_self {g : Nat} {o : Obj} (e : h.own g = some o) : h.set g o = h := by
  unfold Hp.set
  cases h
  congr 1
  funext k
  split
  · rename_i hk; subst hk; exact e.symm
  · rfl
theorem dwp_loadCellsFrom {b off : Nat} {K : Array Value → Hp → Prop} : ∀ (n i : Nat) (acc : Array Value) (xs : List Value), readV (h.cell? F) b (off + i) n = some xs →
    dwp P F (loadCellsFrom ⟨b, off, none⟩ i n acc) h K = K (acc ++ xs.toArray) h := by
  intro n
  induction n with
  | zero =>
    intro i acc xs e
    simp only [readV, Option.some.injEq] at e
    subst e
    simp only [loadCellsFrom, dwp_pure', Array.append_empty]
  | succ n ih =>
    intro i acc xs e
    rw [readV_succ] at e
    unfold loadCellsFrom
    rw [dwp_bind', dwp_load', add_none]
    cases hc : h.cell? F ⟨b, off + i, none⟩ with
    | none => rw [hc] at e; cases e
    | some v =>
      rw [hc, readVC_some] at e
      cases hr : readV (h.cell? F) b (off + i + 1) n with
      | none => rw [hr] at e; cases e
      | some r =>
        rw [hr, Option.map_some, Option.some.injEq] at e
        subst e
        rw [CellK_some, BindK_app, ih (i + 1) _ r (by rw [← Nat.add_assoc]; exact hr)]
        congr 1
        simp
theorem dwp_loadCells {b off n : Nat} {xs : List Value} {K : Array Value → Hp → Prop} (e : readV (h.cell? F) b off n = some xs) : dwp P F (loadCells ⟨b, off, none⟩ n) h K = K xs.toArray h := by
  unfold loadCells
  rw [dwp_loadCellsFrom n 0 #[] xs (by simpa using e)]
  simp
theorem dwp_storeCells {g e off : Nat} {K : Unit → Hp → Prop} : ∀ (ys : List Value) (i : Nat) (h : Hp) (cur : List Value), h.own g = some (.cells cur.toArray e (0, 0)) → off + i + ys.length ≤ cur.length → (∀ y ∈ ys, notAgg y = true) →
    K () (h.set g (.cells (putAt cur (off + i) ys).toArray e (0, 0))) → dwp P F (storeCells ⟨g, off, none⟩ ys i) h K := by
  intro ys
  induction ys with
  | nil =>
    intro i h cur ho hl hn hk
    rw [putAt_nil, set_self ho] at hk
    unfold storeCells
    exact hk
  | cons y ys ih =>
    intro i h cur ho hl hn hk
    unfold storeCells
    rw [dwp_bind', dwp_store', add_none]
    simp only [ho, StoreK_some]
    simp only [List.length_cons] at hl
    refine ⟨hn y (by simp), trivial, by simp; omega, by simp, ?_⟩
    rw [BindK_app]
    refine ih (i + 1) _ (cur.set (off + i) y) (by simp [Hp.own_set]) (by simp; omega) (fun z hz => hn z (by simp [hz])) ?_
    rw [putAt_cons] at hk
    rw [set_set]
    exact hk
theorem putAt_mid : ∀ (ys xs tl : List Value), ys.length ≤ tl.length → putAt (xs ++ tl) xs.length ys = xs ++ ys ++ tl.drop ys.length := by
  intro ys
  induction ys with
  | nil => intro xs tl _; simp [putAt_nil]
  | cons y ys ih =>
    intro xs tl hl
    cases tl with
    | nil => simp at hl
    | cons t tl =>
      rw [putAt_cons]
      have e : (xs ++ t :: tl).set xs.length y = (xs ++ [y]) ++ tl := by simp
      rw [e]
      have := ih (xs ++ [y]) tl (by simpa using hl)
      rw [show (xs ++ [y]).length = xs.length + 1 by simp] at this
      rw [this]
      simp

/-! ### Slices of the call's own -/
/-- v is a slice of n elements of type e whose cells are xs, in a block that is owned from its first cell on (or nil). -/
def Own (F : Fr) (h : Hp) (e size : Nat) (v : Value) (n : Nat) (xs : List Value) : Prop :=
  xs.length = n * size ∧ ((v = .slice none 0 0 ∧ n = 0) ∨
    ∃ g cap tl, v = .slice (some ⟨g, 0, none⟩) n cap ∧ F.w0.heap.size ≤ g ∧ h.own g = some (.cells (xs ++ tl).toArray e (0, 0)) ∧ n ≤ cap ∧ (xs ++ tl).length = cap * size)
theorem Own.nil {e size : Nat} : Own F h e size (.slice none 0 0) 0 [] := ⟨by simp, .inl ⟨rfl, rfl⟩⟩
theorem Own.made {g e size n : Nat} {xs : List Value} (hg : F.w0.heap.size ≤ g) (ho : h.own g = some (.cells xs.toArray e (0, 0))) (hl : xs.length = n * size) : Own F h e size (.slice (some ⟨g, 0, none⟩) n n) n xs :=
  ⟨hl, .inr ⟨g, n, [], rfl, hg, by simpa using ho, Nat.le_refl _, by simpa using hl⟩⟩
theorem Own.owned {e size n : Nat} {v : Value} {xs : List Value} (o : Own F h e size v n xs) : ∀ b, blk v = some b → ∃ ob, h.own b = some ob := by
  intro b hb
  rcases o.2 with ⟨rfl, _⟩ | ⟨g, cap, tl, rfl, h1, h2, _⟩
  · cases hb
  · rw [blk_some] at hb; cases hb; exact ⟨_, h2⟩
theorem Own.nblk {e size n : Nat} {v : Value} {xs : List Value} (o : Own F h e size v n xs) : ∀ b, h.own b = none → blk v ≠ some b := by
  intro b hb hc
  obtain ⟨ob, ho⟩ := o.owned b hc
  rw [hb] at ho
  cases ho
theorem Own.kept {h' : Hp} {e size n : Nat} {v : Value} {xs : List Value} (o : Own F h e size v n xs) (hk : ∀ b ob, blk v = some b → h.own b = some ob → h'.own b = some ob) : Own F h' e size v n xs := by
  refine ⟨o.1, ?_⟩
  rcases o.2 with hn | ⟨g, cap, tl, rfl, h1, h2, h3⟩
  · exact .inl hn
  · exact .inr ⟨g, cap, tl, rfl, h1, hk g _ rfl h2, h3⟩
theorem readV_row {g e off : Nat} {tl : List Value} (hg : F.w0.heap.size ≤ g) : ∀ (xs pre : List Value), h.own g = some (.cells (pre ++ xs ++ tl).toArray e (0, 0)) → pre.length = off → readV (h.cell? F) g off xs.length = some xs := by
  intro xs
  induction xs generalizing off with
  | nil => exact fun _ _ _ => rfl
  | cons x xs ih =>
    intro pre ho hp
    rw [List.length_cons, readV_succ]
    have hc : h.cell? F ⟨g, off, none⟩ = some x := by
      rw [Hp.cell_def, Fr.ro_new hg, RoC_none, ho, OwnC_some]
      subst hp
      simp
    rw [hc, readVC_some, ih (off := off + 1) (pre ++ [x]) (by simpa using ho) (by simp [hp])]
    rfl
/-- Its cells can be read. -/
theorem Own.read {e size n : Nat} {v : Value} {xs : List Value} (o : Own F h e size v n xs) : ∀ g cap, v = .slice (some ⟨g, 0, none⟩) n cap → readV (h.cell? F) g 0 (n * size) = some xs := by
  intro g cap hv
  rcases o.2 with ⟨rfl, _⟩ | ⟨g', cap', tl, rfl, h1, h2, h3⟩
  · cases hv
  · cases hv
    rw [← o.1]
    exact readV_row h1 xs [] (by simpa using h2) rfl
theorem fresh_ne {v : Value} {g x : Nat} {o : Obj} (hf : blk v = some g ∨ (h.own g = none ∧ F.w0.heap.size ≤ g)) (h1 : blk v ≠ some x) (h2 : h.own x = some o) : g ≠ x := by
  rintro rfl
  rcases hf with hf | ⟨hf, _⟩
  · exact h1 hf
  · rw [h2] at hf; cases hf
theorem fresh_blk {e size n : Nat} {v u : Value} {xs : List Value} {g : Nat} (hf : blk v = some g ∨ (h.own g = none ∧ F.w0.heap.size ≤ g)) (hu : Own F h e size u n xs) (hd : ∀ b, blk v = some b → blk u ≠ some b) : blk u ≠ some g := by
  intro hb
  rcases hf with hf | ⟨hf, _⟩
  · exact hd g hf hb
  · obtain ⟨ob, ho⟩ := hu.owned g hb
    rw [ho] at hf; cases hf
theorem Own.other {e size n g : Nat} {v : Value} {xs : List Value} {ob : Obj} (o : Own F h e size v n xs) (hg : blk v ≠ some g) : Own F (h.set g ob) e size v n xs :=
  o.kept fun b o' hb ho => by rw [Hp.own_set, if_neg (by rintro rfl; exact hg hb)]; exact ho
theorem Own.drop {e size n g : Nat} {v : Value} {xs : List Value} (o : Own F h e size v n xs) (hg : blk v ≠ some g) : Own F (h.drop g) e size v n xs :=
  o.kept fun b o' hb ho => by rw [Hp.own_drop, if_neg (by rintro rfl; exact hg hb)]; exact ho
theorem Own.dropV {e size n : Nat} {v u : Value} {xs : List Value} (o : Own F h e size v n xs) (hd : ∀ b, blk v = some b → blk u ≠ some b) : Own F (dropV h u) e size v n xs :=
  o.kept fun b o' hb ho => by rw [dropV_own (hd b hb)]; exact ho
/-- Integers as cells. -/
def ints (l : List Int) : List Value := l.map (Value.int .i64)
theorem ints_snoc (l : List Int) (x : Int) : ints (l ++ [x]) = ints l ++ [.int .i64 x] := by simp [ints]
theorem ints_len (l : List Int) : (ints l).length = l.length := by simp [ints]
theorem readI_ints {ro : Addr → Option Value} {b : Nat} : ∀ {l : List Int} {off n : Nat}, readV ro b off n = some (ints l) → readI ro b off n = some l := by
  intro l
  induction l with
  | nil =>
    intro off n e
    cases n with
    | zero => rfl
    | succ n => have := readV_len e; simp [ints] at this
  | cons x r ih =>
    intro off n e
    cases n with
    | zero => have := readV_len e; simp [ints] at this
    | succ n =>
      rw [readV_succ] at e
      rw [readI_succ]
      unfold readVC at e
      split at e
      · rename_i v hv
        cases hr : readV ro b (off + 1) n with
        | none => rw [hr] at e; cases e
        | some q =>
          rw [hr] at e
          simp only [Option.map_some, Option.some.injEq, ints, List.map_cons, List.cons.injEq] at e
          obtain ⟨rfl, rfl⟩ := e
          rw [hv, readC_some, ih hr]
          rfl
      · cases e
theorem Own.some {e size n : Nat} {v : Value} {xs : List Value} (o : Own F h e size v n xs) (hn : 0 < n) : ∃ g cap, v = .slice (some ⟨g, 0, none⟩) n cap ∧ readV (h.cell? F) g 0 (n * size) = some xs := by
  rcases o.2 with ⟨_, h0⟩ | ⟨g, cap, tl, hv, h1, h2, h3⟩
  · omega
  · exact ⟨g, cap, hv, o.read g cap hv⟩
theorem Own.len {e size n : Nat} {v : Value} {xs : List Value} (o : Own F h e size v n xs) : ∃ p cap, v = .slice p n cap := by
  rcases o.2 with ⟨rfl, rfl⟩ | ⟨g, cap, tl, hv, _⟩
  · exact ⟨_, _, rfl⟩
  · exact ⟨_, _, hv⟩
/-- What a type is, as 'append' asks it. -/
def okInfo (P : Program) (e size bytes : Nat) : Bool := match P.info? e with
  | some i => i.size == size && i.bytes == bytes && (match i.zero with | some z => z.cells.size == size | none => false)
  | none => false
theorem okInfo_spec {e size bytes : Nat} (h : okInfo P e size bytes = true) : ∃ i z, P.info? e = some i ∧ i.zero = some z ∧ i.size = size ∧ i.bytes = bytes ∧ z.cells.size = size := by
  unfold okInfo at h
  split at h
  · rename_i i hi
    simp only [Bool.and_eq_true, beq_iff_eq] at h
    obtain ⟨⟨h1, h2⟩, h3⟩ := h
    split at h3
    · rename_i z hz
      exact ⟨i, z, hi, hz, h1, h2, by simpa using h3⟩
    · cases h3
  · cases h
theorem dwp_choose {q : Question} {K : Nat → Hp → Prop} (hq : q.forced = false) (H : ∀ n, K (q.cut n) h) : dwp P F (choose q) h K := by
  show (if q.forced then _ else _)
  rw [hq]
  exact H
theorem dwp_append {t ty e b off m c size bytes : Nat} {v : Value} {n : Nat} {xs ys : List Value} {K : Value → Hp → Prop}
    (ht : P.underlying t = some (.slice e)) (hinf : okInfo P e size bytes = true) (hb0 : bytes ≠ 0) (hm0 : 0 < m)
    (hv : Own F h e size v n xs) (hr : readV (h.cell? F) b off (m * size) = some ys) (hn : ∀ y ∈ ys, notAgg y = true) (hlim : (n + m) * bytes ≤ 140737488355328)
    (H : ∀ v' g ob, (blk v = some g ∨ (h.own g = none ∧ F.w0.heap.size ≤ g)) → blk v' = some g → Own F (h.set g ob) e size v' (n + m) (xs ++ ys) → K v' (h.set g ob)) :
    dwp P F (Builtin.append_ #[t, t] ty #[v, .slice (some ⟨b, off, none⟩) m c]) h K := by
  obtain ⟨i, z, hi, hz, hsz, hby, hzs⟩ := okInfo_spec hinf
  have hly : ys.length = m * size := readV_len hr
  have hsz' : ∀ {K : Nat → Hp → Prop}, dwp P F (sizeOf e) h K = K size h := by
    intro K; rw [dwp_sizeOf, hi]; simp [OptK, hsz]
  have hti : ∀ {K : TypeInfo → Hp → Prop}, dwp P F (typeInfo e) h K = K i h := by
    intro K; simp only [typeInfo, dwp_bind', dwp_program, BindK_app, hi]; rfl
  have hze : ∀ {K : Value → Hp → Prop}, dwp P F (zeroValue e) h K = K z h := by
    intro K; rw [dwp_zeroValue, hi]; simp [OptK, hz]
  have hun : ∀ {K : TypeDesc → Hp → Prop}, dwp P F (underlying t) h K = K (.slice e) h := by
    intro K; rw [dwp_underlying, ht]; rfl
  have hlc : ∀ {K : Array Value → Hp → Prop}, dwp P F (loadCells ⟨b, off, none⟩ (m * size)) h K = K ys.toArray h := dwp_loadCells hr
  have key : ∀ (base : Option Addr) (sCap : Nat), sCap < n + m → v = .slice base n sCap → (∀ {K : Array Value → Hp → Prop}, dwp P F (Builtin.firstCells size n (.slice base n sCap)) h K = K xs.toArray h) →
      dwp P F (Builtin.append_ #[t, t] ty #[.slice base n sCap, .slice (some ⟨b, off, none⟩) m c]) h K := by
    intro base sCap hlt hve hfc
    have hcap : ¬ (n + m ≤ sCap) := by omega
    have hbig : ¬ ((9223372036854775807 : Int) < (n : Int) + (m : Int) ∧ i.bytes = 0) := by rintro ⟨_, h1⟩; omega
    have hnx : ¬ (281474976710656 < Builtin.nextslicecap (n + m) sCap * i.bytes) := by
      have := growslice_fits hlt hlim
      rw [hby]
      omega
    have hfy : ∀ {K : Array Value → Hp → Prop}, dwp P F (Builtin.firstCells size m (.slice (some ⟨b, off, none⟩) m c)) h K = K ys.toArray h := hlc
    have hmk : ∀ {k : Nat} {K : Unit → Hp → Prop}, dwp P F (askRoom k) h K = K () h := by
      intro k K; unfold askRoom; split <;> rfl
    simp [Builtin.append_, dwp_bind', hun, BindK_app, hsz', dwp_pure', Builtin.lenOf, hcap, hti, hbig, hnx]
    refine dwp_choose (by rfl) (fun k => ?_)
    simp only [BindK_app, Question.cut, dwp_bind', hti, hmk, hfc, hfy, hze, newRow, dwp_newObj, dwp_pure']
    intro g hg1 hg2
    simp only [BindK_app, dwp_pure']
    refine H _ _ _ (.inr ⟨hg2, hg1⟩) rfl ⟨by rw [List.length_append, hv.1, hly, Nat.add_mul], .inr ⟨g, _, (Builtin.zeroCells z.cells (n + m + k % (2 ^ 63 - (n + m)) - (n + m))).toList, rfl, hg1, ?_, by omega, ?_⟩⟩
    · simp [Hp.own_set]
    · rw [List.length_append, List.length_append, hv.1, hly, Array.length_toList, size_zeroCells, hzs, ← Nat.add_mul, ← Nat.add_mul]
      congr 1
      omega
  rcases hv.2 with ⟨rfl, rfl⟩ | ⟨g, cap, tl, rfl, hg, ho, hcap, hl⟩
  · have hx : xs = [] := List.eq_nil_of_length_eq_zero (by simpa using hv.1)
    subst hx
    exact key none 0 (by omega) rfl (by intro K; simp [Builtin.firstCells, dwp_pure'])
  · by_cases hroom : n + m ≤ cap
    · have hfy : ∀ {K : Array Value → Hp → Prop}, dwp P F (Builtin.firstCells size m (.slice (some ⟨b, off, none⟩) m c)) h K = K ys.toArray h := hlc
      have hle : ys.length ≤ tl.length := by
        have h1 : (n + m) * size ≤ cap * size := Nat.mul_le_mul_right _ hroom
        rw [List.length_append, hv.1] at hl
        rw [hly]
        rw [Nat.add_mul] at h1
        omega
      simp [Builtin.append_, dwp_bind', hun, BindK_app, hsz', dwp_pure', Builtin.lenOf, hroom, hfy]
      rw [map_eq_pure_bind, dwp_bind', add_none, ← hv.1, Nat.zero_add]
      refine dwp_storeCells (off := xs.length) ys 0 h (xs ++ tl) ho (by rw [List.length_append]; omega) hn ?_
      rw [Nat.add_zero, putAt_mid ys xs tl hle]
      simp only [BindK_app, dwp_pure']
      refine H _ _ _ (.inl rfl) rfl ⟨by rw [List.length_append, hv.1, hly, Nat.add_mul], .inr ⟨g, cap, tl.drop ys.length, rfl, hg, by simp [Hp.own_set], hroom, ?_⟩⟩
      rw [← hl]; simp; omega
    · exact key (some ⟨g, 0, none⟩) cap (by omega) rfl (by
        intro K
        have := hv.read (F := F) (h := h) g cap rfl
        exact dwp_loadCells this)
end
end Go.SL
set_option linter.unusedVariables false
set_option linter.unusedSimpArgs false
namespace Go.SL
open Go.RowKit
theorem mul_bd {a b A B : Int} (h1 : -A ≤ a) (h2 : a ≤ A) (h3 : -B ≤ b) (h4 : b ≤ B) : -(A * B) ≤ a * b ∧ a * b ≤ A * B := by
  have hA : 0 ≤ A := by omega
  have hB : 0 ≤ B := by omega
  have e1 : a * b ≤ A * B := by
    rcases Int.le_total 0 b with hb | hb
    · exact Int.le_trans (Int.mul_le_mul_of_nonneg_right h2 hb) (Int.mul_le_mul_of_nonneg_left h4 hA)
    · have := Int.mul_le_mul_of_nonneg_right (show -a ≤ A by omega) (show 0 ≤ -b by omega)
      have h5 := Int.mul_le_mul_of_nonneg_left (show -b ≤ B by omega) hA
      rw [Int.neg_mul_neg] at this
      omega
  have e2 : -(a * b) ≤ A * B := by
    rcases Int.le_total 0 b with hb | hb
    · have := Int.mul_le_mul_of_nonneg_right (show -a ≤ A by omega) hb
      have h5 := Int.mul_le_mul_of_nonneg_left h4 hA
      rw [Int.neg_mul] at this
      omega
    · have := Int.mul_le_mul_of_nonneg_right h2 (show 0 ≤ -b by omega)
      have h5 := Int.mul_le_mul_of_nonneg_left (show -b ≤ B by omega) hA
      rw [Int.mul_neg] at this
      omega
  omega
theorem tdiv_bd {a g B : Int} (hg : 0 ≤ g) (h1 : -B ≤ a) (h2 : a ≤ B) : -B ≤ a.tdiv g ∧ a.tdiv g ≤ B := by
  have h := Int.natAbs_tdiv a g
  have h3 : a.natAbs.div g.natAbs ≤ a.natAbs := Nat.div_le_self _ _
  omega
theorem i64w {n : Int} (h1 : -9223372036854775808 ≤ n) (h2 : n ≤ 9223372036854775807) : IntKind.i64.wrap n = n := IntWalk.i64_in _ ⟨h1, h2⟩
theorem dry_eqGuardE {P : Program} {t : TypeId} {x y : Operand} {a b : Array Value} (hg : P.eqGuardType P.depth t = false) : dry P (eqGuard .eql t x y (.agg a) (.agg b)) = some () := by
  simp [eqGuard, dry_bind', dry_program, DB_some, dry_pure', hg]
theorem dry_eqGuardN {P : Program} {t : TypeId} {x y : Operand} {a b : Array Value} (hg : P.eqGuardType P.depth t = false) : dry P (eqGuard .neq t x y (.agg a) (.agg b)) = some () := by
  simp [eqGuard, dry_bind', dry_program, DB_some, dry_pure', hg]
theorem dwp_eqGuardE {P : Program} {F : Fr} {h : Hp} {K : Unit → Hp → Prop} {t : TypeId} {x y : Operand} {a b : Array Value} (hg : P.eqGuardType P.depth t = false) : dwp P F (eqGuard .eql t x y (.agg a) (.agg b)) h K = K () h := dry_dwp _ (dry_eqGuardE hg)
theorem dwp_eqGuardN {P : Program} {F : Fr} {h : Hp} {K : Unit → Hp → Prop} {t : TypeId} {x y : Operand} {a b : Array Value} (hg : P.eqGuardType P.depth t = false) : dwp P F (eqGuard .neq t x y (.agg a) (.agg b)) h K = K () h := dry_dwp _ (dry_eqGuardN hg)
theorem rval_eqGuardE {P : Program} {F : Fr} {S : Hp} {t : TypeId} {x y : Operand} {a b : Array Value} (hg : P.eqGuardType P.depth t = false) : rval P F (eqGuard .eql t x y (.agg a) (.agg b)) S = some () := dry_rval _ (dry_eqGuardE hg)
theorem rval_eqGuardN {P : Program} {F : Fr} {S : Hp} {t : TypeId} {x y : Operand} {a b : Array Value} (hg : P.eqGuardType P.depth t = false) : rval P F (eqGuard .neq t x y (.agg a) (.agg b)) S = some () := dry_rval _ (dry_eqGuardN hg)
end Go.SL
set_option linter.unusedVariables false
set_option linter.unusedSimpArgs false
namespace Go.SL
open Go.RowKit
theorem flat_get {α β : Type} {s : Nat} {f : α → List β} (hf : ∀ a, (f a).length = s) : ∀ (l : List α) (i j : Nat) (a : α), l[i]? = some a → j < s → (l.flatMap f)[i * s + j]? = (f a)[j]? := by
  intro l
  induction l with
  | nil => intro i j a h; simp at h
  | cons x l ih =>
    intro i j a h hj
    rw [List.flatMap_cons]
    cases i with
    | zero =>
      simp only [List.getElem?_cons_zero, Option.some.injEq] at h
      subst h
      rw [Nat.zero_mul, Nat.zero_add, List.getElem?_append_left (by rw [hf]; exact hj)]
    | succ i =>
      simp only [List.getElem?_cons_succ] at h
      rw [List.getElem?_append_right (by rw [hf, Nat.succ_mul]; omega), hf]
      have e : (i + 1) * s + j - s = i * s + j := by rw [Nat.succ_mul]; omega
      rw [e]
      exact ih i j a h hj
theorem flat_len {α β : Type} {s : Nat} {f : α → List β} (hf : ∀ a, (f a).length = s) (l : List α) : (l.flatMap f).length = l.length * s := by
  induction l with
  | nil => simp
  | cons x l ih => rw [List.flatMap_cons, List.length_append, hf, ih, List.length_cons, Nat.succ_mul]; omega
/-- Where the first of them is of which something is so; -1 if there is none. -/
def idxL {α : Type} (p : α → Bool) : List α → Int → Int
  | [], _ => -1
  | x :: r, i => if p x then i else idxL p r (i + 1)
theorem idxL_ge {α : Type} (p : α → Bool) : ∀ (l : List α) (i : Int), 0 ≤ i → decide (0 ≤ idxL p l i) = l.any p := by
  intro l
  induction l with
  | nil => intro i _; rfl
  | cons x r ih =>
    intro i hi
    have := ih (i + 1) (by omega)
    by_cases h : p x = true
    · simp [idxL, h, hi]
    · simp only [List.any_cons, ← this, idxL, h]; simp
theorem readV_at {ro : Addr → Option Value} {b off n s : Nat} {α : Type} {f : α → List Value} (hf : ∀ a, (f a).length = s) {l : List α} (hx : readV ro b off (n * s) = some (l.flatMap f)) {i : Nat} {a : α} (ha : l[i]? = some a) :
    ∀ j v, (f a)[j]? = some v → ro ⟨b, off + i * s + j, none⟩ = some v := by
  intro j v hj
  have hlt : j < s := by
    have := (List.getElem?_eq_some_iff.1 hj).1
    rw [hf] at this; exact this
  have h1 := flat_get hf l i j a ha hlt
  rw [hj] at h1
  have := readV_get hx _ _ h1
  rwa [← Nat.add_assoc] at this
section
variable {P : Program} {F : Fr} {S h : Hp} {t e s n m l : Nat} {a : Addr}
/-- A slice of a whole array. -/
theorem dwp_sliceA {K : Value → Hp → Prop} (hu : P.underlying t = some (.array n e)) (hs : ∀ w, (sizeOf e).run P w = .ok s w) :
    dwp P F (Instr.sliceAt t (.pointer (some a)) none none none) h K = K (.slice (some a) n n) h := by
  have hz : ∀ K, dwp P F (sizeOf e) h K = K s h := fun K => dwp_size_of hs
  simp only [Instr.sliceAt, Instr.sureAddr, Instr.sliceBounds, dwp_bind', dwp_pure', BindK_app, dwp_underlying, hu, OptK_some, hz]
  by_cases hn : n = 0
  · simp [hn]
  · rw [if_neg hn]
    simp only [Nat.zero_mul, Nat.sub_zero]
    rfl
theorem rval_sliceA (hu : P.underlying t = some (.array n e)) (hs : ∀ w, (sizeOf e).run P w = .ok s w) :
    rval P F (Instr.sliceAt t (.pointer (some a)) none none none) S = some (.slice (some a) n n) := by
  simp only [Instr.sliceAt, Instr.sureAddr, Instr.sliceBounds, rval_bind', rval_pure', RB_some, rval_un hu, rval_size hs]
  by_cases hn : n = 0
  · simp [hn]
  · rw [if_neg hn]
    simp only [Nat.zero_mul, Nat.sub_zero]
    rfl
end
end Go.SL
set_option linter.unusedVariables false
set_option linter.unusedSimpArgs false
namespace Go.SL
open Go.RowKit
section
variable {P : Program} {F : Fr} {S h : Hp} {a : Act} {K : Act → Hp → Prop} {dst : Option Tmp} {ty : TypeId} {pos : String} {af : Array Edge} {g : Option (Nat × Bool)} {t len elem s : Nat} {z : Value} {cs : List Value} {parts : Array (Nat × Operand)}
theorem rval_underlying : rval P F (underlying t) S = P.underlying t := by
  simp only [underlying, rval_bind', rval_program, RB_some]
  cases P.underlying t <;> rfl
theorem rval_sizeOf : rval P F (sizeOf t) S = (P.info? t).map (·.size) := by
  simp only [sizeOf, typeInfo, rval_bind', rval_program, RB_some]
  cases P.info? t <;> rfl
theorem rval_zeroValue : rval P F (zeroValue t) S = (P.info? t).bind (·.zero) := by
  simp only [zeroValue, typeInfo, rval_bind', rval_program, RB_some]
  cases P.info? t with
  | none => rfl
  | some i =>
    show rval P F (match i.zero with | some v => pure v | none => unsupported (.resourceLimit "a value of more than 2^22 cells")) S = _
    simp only [Option.bind_some]
    cases i.zero <;> rfl
theorem AL_buildSlice (hu : P.underlying t = some (.slice elem)) (hs : (P.info? elem).map (·.size) = some s) (hz : (P.info? elem).bind (·.zero) = some z) (hl : len * s ≤ 16777216)
    (hf : fillL (fun i => some (i * s, s)) (cyc z.cells.toList 0 (len * s)) (parts.toList.map fun p => (p.1, a.eval p.2)) = some cs) :
    AL P F (execOp a.eval ⟨dst, .buildSlice t len parts, ty, pos, af, g⟩) (.cells cs.toArray elem) (fun g => .slice (some ⟨g, 0, none⟩) len len) := by
  intro h K
  have hm : (parts.map fun x => (x.1, a.eval x.2)).toList = parts.toList.map fun p => (p.1, a.eval p.2) := by simp
  unfold vop
  simp only [execOp, Instr.buildSlice]
  rw [dwp_bind', dwp_bind', dwp_underlying, hu, OptK_some, BindK_app]
  dsimp only
  rw [dwp_bind', dwp_sizeOf, hs, OptK_some, BindK_app, if_neg (by omega)]
  have fin_ : ∀ (cs' : List Value) (K' : Value → Hp → Prop), fillL (fun i => some (i * s, s)) cs' (parts.toList.map fun p => (p.1, a.eval p.2)) = some cs →
      dwp P F (match Instr.fill (fun i => some (i * s, s)) cs'.toArray ((parts.map fun x => (x.1, a.eval x.2)).toList) with
        | some cells => (do let r ← newRow elem cells; pure (Value.slice (some r) len len) : Sem Value)
        | _ => stuck "buildSlice: a part of the wrong size") h K' = NewK F (.cells cs.toArray elem) (fun g h' => K' (.slice (some ⟨g, 0, none⟩) len len) h') h := by
    intro cs' K' hf
    rw [fill_eq, hm, hf]
    rfl
  by_cases h0 : len * s = 0
  · simp only [h0, if_true, pure_bind]
    have e0 : ∀ f : Nat → Value, (Array.range 0).map f = ([] : List Value).toArray := fun f => by simp
    rw [e0]
    exact Iff.of_eq (fin_ [] (BindK P F (fun v => pure (Next.value v)) (kfin P F K)) (by rw [h0] at hf; exact hf))
  · simp only [h0, if_false]
    rw [dwp_bind', dwp_zeroValue, hz, OptK_some, BindK_app]
    rw [pure_bind, range_cyc]
    exact Iff.of_eq (fin_ _ (BindK P F (fun v => pure (Next.value v)) (kfin P F K)) hf)
def BsC (F : Fr) (a : Act) (dst : Option Tmp) (K : Act → Hp → Prop) (len elem s : Nat) (parts : List (Nat × Value)) (h : Hp) : Option Value → Prop
  | some z => RowK F a dst K elem len len h (fillL (fun i => some (i * s, s)) (cyc z.cells.toList 0 (len * s)) parts)
  | none => False
theorem BsC_some {parts : List (Nat × Value)} : BsC F a dst K len elem s parts h (some z) = RowK F a dst K elem len len h (fillL (fun i => some (i * s, s)) (cyc z.cells.toList 0 (len * s)) parts) := rfl
def BsB (P : Program) (F : Fr) (S : Hp) (a : Act) (dst : Option Tmp) (K : Act → Hp → Prop) (len elem : Nat) (parts : List (Nat × Value)) (h : Hp) : Option Nat → Prop
  | some s => len * s ≤ 16777216 ∧ BsC F a dst K len elem s parts h (rval P F (zeroValue elem) S)
  | none => False
theorem BsB_some {parts : List (Nat × Value)} : BsB P F S a dst K len elem parts h (some s) = (len * s ≤ 16777216 ∧ BsC F a dst K len elem s parts h (rval P F (zeroValue elem) S)) := rfl
def BsA (P : Program) (F : Fr) (S : Hp) (a : Act) (dst : Option Tmp) (K : Act → Hp → Prop) (len : Nat) (parts : List (Nat × Value)) (h : Hp) : Option TypeDesc → Prop
  | some (.slice elem) => BsB P F S a dst K len elem parts h (rval P F (sizeOf elem) S)
  | _ => False
theorem BsA_some {parts : List (Nat × Value)} : BsA P F S a dst K len parts h (some (.slice elem)) = BsB P F S a dst K len elem parts h (rval P F (sizeOf elem) S) := rfl
theorem stp_buildSlice : BsA P F S a dst K len (parts.toList.map fun p => (p.1, a.eval p.2)) h (rval P F (underlying t) S) → stp P F S false ⟨dst, .buildSlice t len parts, ty, pos, af, g⟩ a h K := by
  intro H
  rw [rval_underlying] at H
  cases hu : P.underlying t with
  | none => rw [hu] at H; exact H.elim
  | some d =>
    rw [hu] at H
    cases d <;> try exact H.elim
    rename_i elem
    rw [BsA_some, rval_sizeOf] at H
    cases hs : (P.info? elem).map (·.size) with
    | none => rw [hs] at H; exact H.elim
    | some s =>
      rw [hs, BsB_some, rval_zeroValue] at H
      cases hz : (P.info? elem).bind (·.zero) with
      | none => rw [hz] at H; exact H.2.elim
      | some z =>
        rw [hz, BsC_some] at H
        cases hf : fillL (fun i => some (i * s, s)) (cyc z.cells.toList 0 (len * s)) (parts.toList.map fun p => (p.1, a.eval p.2)) with
        | none => rw [hf] at H; exact H.2.elim
        | some cs =>
          rw [hf, RowK_some] at H
          exact ⟨_, _, AL_buildSlice hu hs hz H.1 hf, H.2⟩
theorem AppD.own {e b off m c size bytes n : Nat} {v : Value} {xs ys : List Value} (ht : P.underlying t = some (.slice e)) (hinf : okInfo P e size bytes = true) (hb0 : bytes ≠ 0) (hm0 : 0 < m)
    (hv : Own F h e size v n xs) (hr : readV (h.cell? F) b off (m * size) = some ys) (hn : ∀ y ∈ ys, notAgg y = true) (hlim : (n + m) * bytes ≤ 140737488355328)
    (H : ∀ v' g ob, (blk v = some g ∨ (h.own g = none ∧ F.w0.heap.size ≤ g)) → blk v' = some g → Own F (h.set g ob) e size v' (n + m) (xs ++ ys) → K (a.put dst v') (h.set g ob)) :
    AppD P F a dst K #[t, t] ty v (.slice (some ⟨b, off, none⟩) m c) h := dwp_append ht hinf hb0 hm0 hv hr hn hlim H
theorem AppD.draw {e b off m c size bytes n : Nat} {v : Value} {xs ys : List Value} (ht : P.underlying t = some (.slice e)) (hinf : okInfo P e size bytes = true) (hb0 : bytes ≠ 0) (hm0 : 0 < m)
    (hv : Own F h e size v n xs) (hr : readV (h.cell? F) b off (m * size) = some ys) (hn : ∀ y ∈ ys, notAgg y = true) (hlim : (n + m) * bytes ≤ 140737488355328) (hS : ∀ b, blk v = some b → S.own b = none)
    (H : ∀ v' g ob, (blk v = some g ∨ (h.own g = none ∧ F.w0.heap.size ≤ g)) → blk v' = some g → Own F (h.set g ob) e size v' (n + m) (xs ++ ys) → K (a.put dst v') (h.set g ob)) :
    Inv F S h → AppD P F a dst (InvK F S K) #[t, t] ty v (.slice (some ⟨b, off, none⟩) m c) h := by
  intro hi
  refine dwp_append ht hinf hb0 hm0 hv hr hn hlim fun v' g ob h1 h2 h3 => ⟨?_, H v' g ob h1 h2 h3⟩
  rcases h1 with h1 | ⟨h1, h4⟩
  · obtain ⟨o, ho⟩ := hv.owned g h1
    exact hi.set (hS g h1) (hi.mine g o ho)
  · exact hi.set (hi.none h1) (.inl h4)
theorem i64_wrap_nat {n : Nat} (hn : n < 9223372036854775808) : IntKind.i64.wrap (n : Int) = n := by
  refine IntWalk.i64_in _ ?_
  omega
/-- A slice is made, of so many zero values. -/
theorem AL_makeSlice {i : TypeInfo} {n : Nat} {x y : Operand} (hx : a.eval x = .int .i64 n) (hy : a.eval y = .int .i64 n) (hu : P.underlying t = some (.slice elem)) (hi : P.info? elem = some i) (hz : i.zero = some z) (hb : i.bytes * n ≤ 281474976710656) (hn : n < 9223372036854775808) :
    AL P F (execOp a.eval ⟨dst, .makeSlice t x y, ty, pos, af, g⟩) (.cells (cyc z.cells.toList 0 (n * i.size)).toArray elem) (fun g => .slice (some ⟨g, 0, none⟩) n n) := by
  intro h K
  have hw : IntKind.i64.wrap (n : Int) = n := i64_wrap_nat hn
  have hti : ∀ {K : TypeInfo → Hp → Prop}, dwp P F (typeInfo elem) h K = K i h := by
    intro K; simp only [typeInfo, dwp_bind', dwp_program, BindK_app, hi]; rfl
  have hze : ∀ {K : Value → Hp → Prop}, dwp P F (zeroValue elem) h K = K z h := by
    intro K; rw [dwp_zeroValue, hi]; simp [OptK, hz]
  have hsz : ∀ {K : Nat → Hp → Prop}, dwp P F (sizeOf elem) h K = K i.size h := by
    intro K; rw [dwp_sizeOf, hi]; simp [OptK]
  have hmk : ∀ {k : Nat} {K : Unit → Hp → Prop}, dwp P F (askRoom k) h K = K () h := by
    intro k K; unfold askRoom; split <;> rfl
  have c1 : ¬ ((281474976710656 : Int) < (i.bytes : Int) * (n : Int)) := by
    have h1 := Int.ofNat_le.2 hb
    rw [Int.natCast_mul] at h1
    omega
  have c0 : ¬ ((n : Int) < 0) := by omega
  unfold vop
  simp only [execOp, Instr.makeSlice, hx, hy]
  simp [-bind_pure_comp, asInt, asIntOf, dwp_bind', dwp_underlying, hu, OptK_some, BindK_app, dwp_pure', hti, hsz, hmk, hw, c0, c1]
  have e0 : ∀ f : Nat → Value, (Array.range 0).map f = ([] : List Value).toArray := fun f => by simp
  by_cases h0 : n * i.size = 0
  · rcases Nat.mul_eq_zero.1 h0 with h1 | h1
    · subst h1
      simp [-bind_pure_comp, dwp_bind', dwp_pure', BindK_app, newRow, dwp_newObj, cyc_zero, kfin]
      rw [e0]
      exact Iff.rfl
    · simp [-bind_pure_comp, h1, dwp_bind', dwp_pure', BindK_app, newRow, dwp_newObj, cyc_zero, kfin]
      rw [e0]
      exact Iff.rfl
  · rw [if_neg h0]
    simp only [dwp_bind', BindK_app, hze, newRow, range_cyc]
    exact Iff.rfl
theorem stp_makeSlice {n size bytes : Nat} {zs : List Value} {x y : Operand} (hx : a.eval x = .int .i64 n) (hy : a.eval y = .int .i64 n) (hu : P.underlying t = some (.slice elem)) (hi : ∃ i z, P.info? elem = some i ∧ i.zero = some z ∧ z.cells.toList = zs ∧ i.size = size ∧ i.bytes = bytes) (hb : bytes * n ≤ 281474976710656) (hn : n < 9223372036854775808)
    (H : NewK F (.cells (cyc zs 0 (n * size)).toArray elem) (fun g h' => K (a.put dst (.slice (some ⟨g, 0, none⟩) n n)) h') h) : stp P F S false ⟨dst, .makeSlice t x y, ty, pos, af, g⟩ a h K := by
  obtain ⟨i, z, h1, h2, rfl, rfl, rfl⟩ := hi
  exact ⟨_, _, AL_makeSlice hx hy hu h1 h2 hb hn, H⟩
theorem dop_makeS {n size bytes : Nat} {zs : List Value} {x y : Operand} (hx : a.eval x = .int .i64 n) (hy : a.eval y = .int .i64 n) (hu : P.underlying t = some (.slice elem)) (hi : ∃ i z, P.info? elem = some i ∧ i.zero = some z ∧ z.cells.toList = zs ∧ i.size = size ∧ i.bytes = bytes) (hb : bytes * n ≤ 281474976710656) (hn : n < 9223372036854775808)
    (H : NewK F (.cells (cyc zs 0 (n * size)).toArray elem) (fun g h' => K (a.put dst (.slice (some ⟨g, 0, none⟩) n n)) h') h) : dop P F ⟨dst, .makeSlice t x y, ty, pos, af, g⟩ a h K := by
  obtain ⟨i, z, h1, h2, rfl, rfl, rfl⟩ := hi
  rw [dop_vop]
  exact (AL_makeSlice hx hy hu h1 h2 hb hn h _).2 H
end
end Go.SL
set_option linter.unusedVariables false
set_option linter.unusedSimpArgs false
namespace Go.SL
open Go.RowKit
section
variable {P : Program} {F : Fr} {S h : Hp}
/-- A call that is walked into. -/
theorem DCall.inl {f : FuncId} {fn : Func} {c : Code} {args : Array Value} {K : Value → Hp → Prop} {rs : List ResultVar} (hf : P.funcs[f]? = some fn) (hb : fn.body = some c) (hr : fn.results.toList = rs)
    (hd : dcode P F c (Post P F rs K) { tmps := args ++ Array.replicate (fn.ntmps - args.size) undef, defers := [] } h) : DCall P F f args h K :=
  ⟨fun _ r => calls_of hf hb hr r hd⟩
/-- A call that a region which draws makes, walked into: from each state in which S is as it is. -/
theorem CallV.inl {f : FuncId} {args : Array Value} {K : Value → Hp → Prop} (v : Value) (hi : P.inits.idxOf? f = none) (hd : ∀ h', (∀ g o, S.own g = some o → h'.own g = some o) → ∀ K' : Value → Hp → Prop, K' v h' → DCall P F f args h' K') (hk : K v h) : CallV P F S f args K h :=
  ⟨v, ⟨hi, fun h' i K' hk' => hd h' i.keep K' hk'⟩, hk⟩
def ObjK (K : Obj → Hp → Prop) (h : Hp) : Option Obj → Prop
  | some (.cells ..) => False
  | some o => K o h
  | none => False
theorem ObjK_map {K : Obj → Hp → Prop} {es : Array MapEntry} {c : Nat} : ObjK K h (some (.map es c)) = K (.map es c) h := rfl
theorem dwp_getObj' {r : Nat} {K : Obj → Hp → Prop} : dwp P F (getObj r) h K = ObjK K h (h.own r) := by
  simp only [getObj, dwp]
  cases h.own r with
  | none => rfl
  | some o => cases o <;> rfl
def SetK (r : Nat) (o : Obj) (K : Unit → Hp → Prop) (h : Hp) : Option Obj → Prop
  | some (.cells ..) => False
  | some _ => K () (h.set r o)
  | none => False
theorem SetK_map {r : Nat} {o : Obj} {K : Unit → Hp → Prop} {es : Array MapEntry} {c : Nat} : SetK r o K h (some (.map es c)) = K () (h.set r o) := rfl
theorem dwp_setObj' {r : Nat} {o : Obj} {K : Unit → Hp → Prop} : dwp P F (setObj r o) h K = SetK r o K h (h.own r) := by
  simp only [setObj, dwp]
  cases h.own r with
  | none => rfl
  | some o => cases o <;> rfl
/-- The entries of a map of integers. -/
def mkEs : List (Int × Int) → Nat → List MapEntry
  | [], _ => []
  | p :: r, b => ⟨.int .i64 p.1, .int .i64 p.2, b⟩ :: mkEs r (b + 1)
theorem mkEs_len (l : List (Int × Int)) (b : Nat) : (mkEs l b).length = l.length := by
  induction l generalizing b with
  | nil => rfl
  | cons p r ih => simp [mkEs, ih]
theorem mkEs_snoc (l : List (Int × Int)) (p : Int × Int) (b : Nat) : mkEs (l ++ [p]) b = mkEs l b ++ [⟨.int .i64 p.1, .int .i64 p.2, b + l.length⟩] := by
  induction l generalizing b with
  | nil => simp [mkEs]
  | cons q r ih => simp only [List.cons_append, mkEs, ih, List.length_cons]; rw [show b + 1 + r.length = b + (r.length + 1) by omega]
def lookL : List (Int × Int) → Int → Option Int
  | [], _ => none
  | p :: r, k => if k = p.1 then some p.2 else lookL r k
theorem find_lookL (l : List (Int × Int)) (k : Int) : ∀ (b i : Nat), (∃ j, Instr.findNow (.int .i64) (.int .i64 k) (mkEs l b) i = some ((lookL l k).map fun w => (j, .int .i64 w))) := by
  induction l with
  | nil => exact fun b i => ⟨0, rfl⟩
  | cons p r ih =>
    intro b i
    by_cases hk : k = p.1
    · refine ⟨i, ?_⟩
      simp [mkEs, Instr.findNow, Instr.sameNow, lookL, hk]
    · obtain ⟨j, hj⟩ := ih (b + 1) (i + 1)
      refine ⟨j, ?_⟩
      have e : (k == p.1) = false := by simpa using hk
      simp only [mkEs, Instr.findNow, Instr.sameNow, lookL, e, if_neg hk, if_true]
      exact hj
/-- A look into a map of integers. -/
theorem dwp_checkKey {empty : Bool} {t : TypeId} {k : IntKind} {v : Value} {K : Unit → Hp → Prop} (hu : P.underlying t = some (.int k)) : dwp P F (Instr.checkKey empty 10000 t v) h K = K () h := by
  show dwp P F (Instr.checkKey empty (9999 + 1) t v) h K = _
  unfold Instr.checkKey
  rw [dwp_bind', dwp_underlying, hu, OptK_some, BindK_app]
  cases v <;> rfl
theorem dwp_findKey {t : TypeId} {k : Int} {l : List (Int × Int)} {b : Nat} (hu : P.underlying t = some (.int .i64)) :
    ∃ j, ∀ K : Option (Nat × Value) → Hp → Prop, dwp P F (Instr.findKey t (.int .i64 k) (mkEs l b)) h K = K ((lookL l k).map fun w => (j, .int .i64 w)) h := by
  obtain ⟨j, hj⟩ := find_lookL l k b 0
  refine ⟨j, fun K => ?_⟩
  unfold Instr.findKey
  rw [dwp_bind', dwp_underlying, hu, OptK_some, BindK_app, hj]
  rfl
theorem dwp_lookupI {t key elem r c : Nat} {k w : Int} {l : List (Int × Int)} {b : Nat} {K : Value → Hp → Prop} (ht : P.underlying t = some (.map key elem)) (hu : P.underlying key = some (.int .i64)) (hm : h.own r = some (.map (mkEs l b).toArray c)) (hl : lookL l k = some w) :
    dwp P F (Instr.lookup t (.map (some r)) (.int .i64 k) false) h K = K (.int .i64 w) h := by
  unfold Instr.lookup
  rw [dwp_bind', dwp_underlying, ht, OptK_some, BindK_app]
  dsimp only
  rw [dwp_bind', dwp_getObj', hm, ObjK_map, BindK_app]
  dsimp only
  rw [pure_bind, dwp_bind', dwp_checkKey hu, BindK_app, dwp_bind']
  obtain ⟨j, hj⟩ := dwp_findKey (P := P) (F := F) (h := h) (t := key) (k := k) (l := l) (b := b) hu
  rw [hj, hl]
  rfl
theorem dwp_updateI {t key elem r c : Nat} {k : Int} {x : Value} {l : List (Int × Int)} {b : Nat} {K : Unit → Hp → Prop} (ht : P.underlying t = some (.map key elem)) (hu : P.underlying key = some (.int .i64)) (hm : h.own r = some (.map (mkEs l b).toArray c)) (hl : lookL l k = none) :
    dwp P F (Instr.mapUpdate t (.map (some r)) (.int .i64 k) x) h K = K () (h.set r (.map ((mkEs l b).toArray.push ⟨.int .i64 k, x, c⟩) (c + 1))) := by
  unfold Instr.mapUpdate
  rw [dwp_bind', dwp_underlying, ht, OptK_some, BindK_app]
  dsimp only
  rw [dwp_bind', dwp_getObj', hm, ObjK_map, BindK_app]
  dsimp only
  rw [dwp_bind', dwp_checkKey hu, BindK_app, dwp_bind']
  obtain ⟨j, hj⟩ := dwp_findKey (P := P) (F := F) (h := h) (t := key) (k := k) (l := l) (b := b) hu
  rw [hj, hl]
  show dwp P F (setObj r _) h K = _
  rw [dwp_setObj', hm, SetK_map]
def MapN (K : Value → Hp → Prop) (g : Nat) (h : Hp) : Prop := K (.map (some g)) h
theorem MapN_app {K : Value → Hp → Prop} {g : Nat} : MapN K g h = K (.map (some g)) h := rfl
theorem dwp_makeMap {t : TypeId} {K : Value → Hp → Prop} : dwp P F (Instr.makeMap t none) h K = NewK F (.map #[] 0) (MapN K) h := rfl
theorem notAgg_map {r : Option Nat} : notAgg (.map r) = true := rfl
theorem cells_map (r : Option Nat) : Value.cells (.map r) = #[.map r] := rfl
theorem own_cells {o : Obj} {h : Hp} {x : Nat} (e : h.own x = some o) : ∀ b, h.own b = none → ¬ x = b := fun b hb he => by subst he; rw [e] at hb; cases hb
end
end Go.SL
