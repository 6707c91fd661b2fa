/-
  A walk over a part of memory, tenth part: arguments whose cells are integers (structs of integers and of arrays of integers), read at the call's beginning and behind it.
  Conditions: none. Plain theorems and definitions.
-/
import Derived.Test.YtdhdfdaclbfkiaaS9
set_option linter.unusedVariables false
set_option linter.unusedSimpArgs false
namespace Go.SL
open Go.RowKit Go.ChangeShapes Go.WideShapes Go.ChangeAt
/-- Integers of these kinds. -/
def intsAs : List IntKind → List Int → List Value
  | k :: ks, x :: xs => .int k x :: intsAs ks xs
  | _, _ => []
def wfAs : List IntKind → List Int → Prop
  | k :: ks, x :: xs => (Lit.int k x).wf = true ∧ wfAs ks xs
  | _, _ => True
theorem intsAs_append : ∀ {ks ks' : List IntKind} {xs xs' : List Int}, xs.length = ks.length → intsAs (ks ++ ks') (xs ++ xs') = intsAs ks xs ++ intsAs ks' xs'
  | [], _, [], _, _ => rfl
  | k :: ks, ks', x :: xs, xs', h => by
    simp only [List.cons_append, intsAs]
    rw [intsAs_append (by simpa using h)]
theorem wfAs_append : ∀ {ks ks' : List IntKind} {xs xs' : List Int}, xs.length = ks.length → wfAs ks xs → wfAs ks' xs' → wfAs (ks ++ ks') (xs ++ xs')
  | [], _, [], _, _, _, h2 => h2
  | k :: ks, ks', x :: xs, xs', h, h1, h2 => ⟨h1.1, wfAs_append (by simpa using h) h1.2 h2⟩
theorem intsAs_rep {k : IntKind} : ∀ {xs : List Int}, intsAs (List.replicate xs.length k) xs = xs.map (Value.int k)
  | [] => rfl
  | x :: xs => by simp only [List.length_cons, List.replicate_succ, intsAs, List.map_cons, intsAs_rep]
theorem wfAs_rep {k : IntKind} : ∀ {xs : List Int}, (∀ x ∈ xs, (Lit.int k x).wf = true) → wfAs (List.replicate xs.length k) xs
  | [], _ => trivial
  | x :: xs, h => ⟨h x (by simp), wfAs_rep fun y hy => h y (by simp [hy])⟩
/-- A type whose values are integers of these kinds, one behind the other. -/
def Flat (P : Program) (t : TypeId) (ks : List IntKind) : Prop :=
  ∀ (H : Type) (enc : TypeId × Value → H) (w : World) (base : Nat) (spare : Nat → Bool) (held : Bool) (fuel : Nat) (cs : List Value) (x : DataW H × List MemPlace),
    DataW.trod enc P w base spare held fuel t cs = some x →
      (∃ xs : List Int, xs.length = ks.length ∧ cs = intsAs ks xs ∧ wfAs ks xs) ∧ x.2 = [] ∧
      ∀ (w' : World) (base' : Nat) (spare' : Nat → Bool) (held' : Bool), DataW.trod enc P w' base' spare' held' fuel t cs = some x
theorem Flat.int {P : Program} {t : TypeId} {k : IntKind} (ht : P.underlying t = some (.int k)) : Flat P t [k] := by
  intro H enc w base spare held fuel cs x h
  obtain ⟨n, rfl, hx, hw⟩ := DataW.trod_int ht h
  refine ⟨⟨[n], rfl, rfl, hw, trivial⟩, by rw [hx], fun w' b' s' h' => ?_⟩
  rw [← h]
  exact trod_int_any ht _ _
theorem Flat.arr {P : Program} {t e n : Nat} {k : IntKind} (ht : P.underlying t = some (.array n e)) (he : P.underlying e = some (.int k)) (hc : P.cellsOf e = 1) (hct : P.cellsOf t = n) : Flat P t (List.replicate n k) := by
  intro H enc w base spare held fuel cs x h
  obtain ⟨ys, m, rfl, hx, hl, hn, hi⟩ := DataW.trod_array ht h
  rw [hc] at hi
  have key : ∀ i, i < n → ∃ x, cs[i]? = some (.int k x) ∧ ys[i]? = some (.lit (.int k x), []) ∧ (Lit.int k x).wf = true := by
    intro i hlt
    have h1 := hi i hlt
    have hy : ys[i]? = some (ys[i]'(by omega)) := List.getElem?_eq_getElem (by omega)
    rw [hy] at h1
    obtain ⟨x, hcs, hxy, hw⟩ := DataW.trod_int he h1
    refine ⟨x, ?_, by rw [hy, hxy], hw⟩
    have h2 : ((cs.drop (i * 1)).take 1)[0]? = some (.int k x) := by rw [hcs]; rfl
    rw [List.getElem?_take_of_lt (by omega), List.getElem?_drop] at h2
    simpa using h2
  obtain ⟨xs, rfl, hw⟩ := ints_of (k := k) (cs := cs) (fun i hlt => by obtain ⟨x, h1, _, h3⟩ := key i (by omega); exact ⟨x, h1, h3⟩)
  have hlen : xs.length = n := by simpa [hct] using hl
  have hps : x.2 = [] := by
    rw [hx]
    refine flat_nil fun y hy => ?_
    obtain ⟨i, hlt, hyi⟩ := List.getElem_of_mem hy
    obtain ⟨x, _, h2, _⟩ := key i (by omega)
    rw [List.getElem?_eq_getElem hlt, hyi] at h2
    simp only [Option.some.injEq] at h2
    rw [h2]
  subst hlen
  refine ⟨⟨xs, by simp, intsAs_rep.symm, wfAs_rep hw⟩, hps, fun w' b' s' h' => ?_⟩
  rw [← h]
  exact trod_arr_any ht he _ _
inductive FlatFs (P : Program) : Nat → List Field → List IntKind → Prop
  | nil (o : Nat) : FlatFs P o [] []
  | cons {o : Nat} {f : Field} {r : List Field} {ks ks' : List IntKind} (ho : f.offset = o) (hc : P.cellsOf f.type = ks.length) (hf : Flat P f.type ks) (hr : FlatFs P (o + ks.length) r ks') : FlatFs P o (f :: r) (ks ++ ks')
theorem mapM_same {α β : Type} {f g : α → Option β} : ∀ {l : List α}, (∀ a ∈ l, f a = g a) → l.mapM f = l.mapM g
  | [], _ => rfl
  | a :: l, h => by
    rw [List.mapM_cons, List.mapM_cons, h a (by simp), mapM_same fun b hb => h b (by simp [hb])]
theorem FlatFs.all {P : Program} {H : Type} {enc : TypeId × Value → H} {w : World} {base : Nat} {spare : Nat → Bool} {held : Bool} {n : Nat} {cs : List Value} : ∀ {o : Nat} {fl : List Field} {ks : List IntKind}, FlatFs P o fl ks →
    cs.length = o + ks.length → (∀ f ∈ fl, ∃ y, DataW.trod enc P w base spare held n f.type ((cs.drop f.offset).take (P.cellsOf f.type)) = some y) →
    (∃ xs : List Int, xs.length = ks.length ∧ cs.drop o = intsAs ks xs ∧ wfAs ks xs) ∧
    ∀ f ∈ fl, ∀ y, DataW.trod enc P w base spare held n f.type ((cs.drop f.offset).take (P.cellsOf f.type)) = some y → y.2 = [] ∧
      ∀ (w' : World) (base' : Nat) (spare' : Nat → Bool) (held' : Bool), DataW.trod enc P w' base' spare' held' n f.type ((cs.drop f.offset).take (P.cellsOf f.type)) = some y := by
  intro o fl ks h
  induction h with
  | nil o =>
    intro hl _
    refine ⟨⟨[], rfl, ?_, trivial⟩, fun f hf => by simp at hf⟩
    rw [List.drop_eq_nil_of_le (by simp at hl; omega)]; rfl
  | @cons o f r ks ks' ho hc hf hr ih =>
    intro hl hy
    rw [List.length_append] at hl
    obtain ⟨y, hy0⟩ := hy f (by simp)
    obtain ⟨⟨xs, h1, h2, h3⟩, h4, h5⟩ := hf H enc w base spare held n _ y hy0
    obtain ⟨⟨xs', g1, g2, g3⟩, g4⟩ := ih (by omega) (fun f' hf' => hy f' (by simp [hf']))
    refine ⟨⟨xs ++ xs', by simp [h1, g1], ?_, wfAs_append h1 h3 g3⟩, ?_⟩
    · rw [intsAs_append h1, ← h2, ← g2, ho, hc]
      rw [← List.drop_drop]
      exact (List.take_append_drop _ _).symm
    · intro f' hf' y' hy'
      rcases List.mem_cons.1 hf' with rfl | hm
      · rw [hy0] at hy'
        simp only [Option.some.injEq] at hy'
        subst hy'
        exact ⟨h4, h5⟩
      · exact g4 f' hm y' hy'
theorem Flat.struct {P : Program} {t : TypeId} {fs : Array Field} {ks : List IntKind} (ht : P.underlying t = some (.struct fs)) (hc : P.cellsOf t = ks.length) (hf : FlatFs P 0 fs.toList ks) : Flat P t ks := by
  intro H enc w base spare held fuel cs x h
  obtain ⟨ys, n, rfl, hx, hl, hn, hi⟩ := DataW.trod_struct ht h
  have hall : ∀ f ∈ fs.toList, ∃ (i : Nat) (y : DataW H × List MemPlace), ys[i]? = some y ∧ DataW.trod enc P w base spare held n f.type ((cs.drop f.offset).take (P.cellsOf f.type)) = some y := by
    intro f hm
    obtain ⟨i, hlt, hfi⟩ := List.getElem_of_mem hm
    have hlt' : i < fs.size := by simpa using hlt
    have e : fs[i]? = some f := by rw [Array.getElem?_eq_getElem hlt']; simpa using hfi
    have := hi i f e
    have hy : ys[i]? = some (ys[i]'(by omega)) := List.getElem?_eq_getElem (by omega)
    exact ⟨i, _, hy, by rw [this, hy]⟩
  obtain ⟨⟨xs, h1, h2, h3⟩, h4⟩ := hf.all (cs := cs) (by omega) (fun f hm => by obtain ⟨i, y, _, e⟩ := hall f hm; exact ⟨y, e⟩)
  refine ⟨⟨xs, h1, by simpa using h2, h3⟩, ?_, ?_⟩
  · rw [hx]
    refine flat_nil fun y hy => ?_
    obtain ⟨i, hlt, hyi⟩ := List.getElem_of_mem hy
    have hlt' : i < fs.size := by omega
    have e : fs[i]? = some fs[i] := Array.getElem?_eq_getElem hlt'
    have := hi i _ e
    rw [List.getElem?_eq_getElem hlt, hyi] at this
    exact (h4 _ (by simp) _ this).1
  · intro w' b' s' h'
    rw [← h]
    unfold DataW.trod
    rw [ht]
    have : fs.toList.mapM (fun f => DataW.trod enc P w' b' s' h' n f.type ((cs.drop f.offset).take (P.cellsOf f.type))) = fs.toList.mapM (fun f => DataW.trod enc P w base spare held n f.type ((cs.drop f.offset).take (P.cellsOf f.type))) := by
      refine mapM_same fun f hm => ?_
      obtain ⟨i, y, _, e⟩ := hall f hm
      rw [e]
      exact (h4 f hm y e).2 w' b' s' h'
    simp only [this]
theorem open_flat {P : Program} {H : Type} {enc : TypeId × Value → H} {w : World} {base : Nat} {spare : Nat → Bool} {held : Bool} {r : Reach} {b0 : Nat} {t : TypeId} {fs : Array Field} {ks : List IntKind} {v : Value} {d : DataW H} {ps : List MemPlace}
    (ht : P.underlying t = some (.struct fs)) (hf : Flat P t ks) (hval : Value.okWide P w r b0 t v) (hd : DataW.Trod enc P w base spare held t v d ps) :
    ∃ xs : List Int, xs.length = ks.length ∧ v = .agg (intsAs ks xs).toArray ∧ ps = [] ∧ wfAs ks xs ∧
      ∀ (W' : World) (b : Nat) (sp : Nat → Bool) (hh : Bool), DataW.Trod enc P W' b sp hh t v d [] := by
  obtain ⟨cs, rfl⟩ : ∃ cs, v = .agg cs := by
    have := hval
    unfold Value.okWide at this
    rw [ht] at this
    cases v <;> simp_all
  obtain ⟨fuel, h⟩ := hd
  obtain ⟨l⟩ := cs
  simp only [Value.cells] at h
  obtain ⟨⟨xs, h1, rfl, h3⟩, h4, h5⟩ := hf H enc w base spare held fuel _ _ h
  have hps : ps = [] := h4
  subst hps
  exact ⟨xs, h1, rfl, rfl, h3, fun W' b sp hh => ⟨fuel, h5 W' b sp hh⟩⟩
theorem list9 {α : Type} (l : List α) (h : l.length = 9) : ∃ a b c d e f g i j, l = [a, b, c, d, e, f, g, i, j] := by
  match l, h with
  | [a, b, c, d, e, f, g, i, j], _ => exact ⟨a, b, c, d, e, f, g, i, j, rfl⟩
theorem wf_i8 {x : Int} (h : (Lit.int .i8 x).wf = true) : -128 ≤ x ∧ x < 128 := by
  simp [Lit.wf, IntKind.min, IntKind.max, IntKind.signed, IntKind.bits] at h
  omega
end Go.SL
