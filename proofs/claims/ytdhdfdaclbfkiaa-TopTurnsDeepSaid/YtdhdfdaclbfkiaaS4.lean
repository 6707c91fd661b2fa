/-
  A walk over a part of memory, fourth part: what is built out of parts.
  Conditions: none. Plain theorems and definitions.
-/
import Derived.Test.YtdhdfdaclbfkiaaS3
set_option linter.unusedSimpArgs false
namespace Go.SL
open Go.RowKit
/-- Values laid into a list of cells from a place on. -/
def putAt (cells : List Value) (off : Nat) : List Value → List Value
  | [] => cells
  | x :: xs => putAt (cells.set off x) (off + 1) xs
theorem putAt_nil {cells : List Value} {off : Nat} : putAt cells off [] = cells := rfl
theorem putAt_cons {cells : List Value} {off : Nat} {x : Value} {xs : List Value} : putAt cells off (x :: xs) = putAt (cells.set off x) (off + 1) xs := rfl
theorem putAt_length : ∀ (xs : List Value) (cells : List Value) (off : Nat), (putAt cells off xs).length = cells.length := by
  intro xs
  induction xs with
  | nil => exact fun _ _ => rfl
  | cons x xs ih => intro cells off; rw [putAt_cons, ih]; simp
def fillL (place : Nat → Option (Nat × Nat)) (cells : List Value) : List (Nat × Value) → Option (List Value)
  | [] => some cells
  | (i, v) :: r => match place i with
    | none => none
    | some (off, size) => if v.cells.size = size ∧ off + size ≤ cells.length then fillL place (putAt cells off v.cells.toList) r else none
theorem foldl_putAt : ∀ (xs : List Value) (cells : List Value) (off k : Nat),
    ((xs.zipIdx k).foldl (fun (cs : Array Value) (x : Value × Nat) => cs.setIfInBounds (off + x.2) x.1) cells.toArray) = (putAt cells (off + k) xs).toArray := by
  intro xs
  induction xs with
  | nil => exact fun _ _ _ => rfl
  | cons x xs ih =>
    intro cells off k
    simp only [List.zipIdx_cons, List.foldl_cons, List.setIfInBounds_toArray]
    rw [ih (cells.set (off + k) x) off (k + 1), putAt_cons]
    rfl
theorem fill_eq (place : Nat → Option (Nat × Nat)) : ∀ (parts : List (Nat × Value)) (cells : List Value), Instr.fill place cells.toArray parts = (fillL place cells parts).map List.toArray := by
  intro parts
  induction parts with
  | nil => exact fun _ => rfl
  | cons p r ih =>
    intro cells
    obtain ⟨i, v⟩ := p
    simp only [Instr.fill, fillL]
    cases place i with
    | none => rfl
    | some os =>
      obtain ⟨off, size⟩ := os
      simp only
      by_cases h1 : v.cells.size = size
      · by_cases h2 : off + size ≤ cells.length
        · rw [if_neg (by simp only [h1, List.size_toArray]; simp; omega), if_pos ⟨h1, h2⟩]
          rw [← ih]
          congr 1
          have := foldl_putAt v.cells.toList cells off 0
          rw [Nat.add_zero] at this
          rw [← this, ← Array.foldl_toList, Array.toList_zipIdx]
        · rw [if_pos (by simp only [h1, List.size_toArray]; simp; omega), if_neg (fun h => h2 h.2)]
          rfl
      · rw [if_pos (by simp [h1]), if_neg (fun h => h1 h.1)]
        rfl
/-- The cells of so many zero values. -/
def cyc (z : List Value) : Nat → Nat → List Value
  | _, 0 => []
  | i, n + 1 => (z[i % z.length]?).getD default :: cyc z (i + 1) n
theorem cyc_zero {z : List Value} {i : Nat} : cyc z i 0 = [] := rfl
theorem cyc_succ {z : List Value} {i n : Nat} : cyc z i (n + 1) = (z[i % z.length]?).getD default :: cyc z (i + 1) n := rfl
theorem cyc_eq (z : List Value) : ∀ (n i : Nat), cyc z i n = (List.range' i n).map (fun k => (z[k % z.length]?).getD default) := by
  intro n
  induction n with
  | zero => exact fun _ => rfl
  | succ n ih => intro i; rw [cyc_succ, ih, List.range'_succ, List.map_cons]
theorem range_cyc (z : Array Value) (n : Nat) : (Array.range n).map (fun i => z[i % z.size]!) = (cyc z.toList 0 n).toArray := by
  rw [cyc_eq]
  apply Array.ext'
  simp only [Array.toList_map, Array.toList_range, List.range_eq_range', Array.length_toList]
  apply List.map_congr_left
  intro k _
  rw [getElem!_def]
  simp only [Array.getElem?_toList]
  cases z[k % z.size]? <;> rfl
section
variable {P : Program} {F : Fr} {h : Hp} {a : Act} {K : Act → Hp → Prop} {dst : Option Tmp} {ty : TypeId} {pos : String} {af : Array Edge} {g : Option (Nat × Bool)}
/-- A new row of cells is made, its slice put into a slot. -/
def RowK (F : Fr) (a : Act) (dst : Option Tmp) (K : Act → Hp → Prop) (elem len cap : Nat) (h : Hp) : Option (List Value) → Prop
  | some cs => NewK F (.cells cs.toArray elem) (fun g h' => K (a.put dst (.slice (some ⟨g, 0, none⟩) len cap)) h') h
  | none => False
def RowN (a : Act) (dst : Option Tmp) (K : Act → Hp → Prop) (len cap : Nat) (g : Nat) (h : Hp) : Prop := K (a.put dst (.slice (some ⟨g, 0, none⟩) len cap)) h
theorem RowN_app {len cap g : Nat} : RowN a dst K len cap g h = K (a.put dst (.slice (some ⟨g, 0, none⟩) len cap)) h := rfl
theorem RowK_some {elem len cap : Nat} {cs : List Value} : RowK F a dst K elem len cap h (some cs) = NewK F (.cells cs.toArray elem) (RowN a dst K len cap) h := rfl
def BS3 (F : Fr) (a : Act) (dst : Option Tmp) (K : Act → Hp → Prop) (elem size len : Nat) (parts : List (Nat × Value)) (z : Value) (h : Hp) : Prop :=
  RowK F a dst K elem len len h (fillL (fun i => some (i * size, size)) (cyc z.cells.toList 0 (len * size)) parts)
theorem BS3_app {elem size len : Nat} {parts : List (Nat × Value)} {z : Value} : BS3 F a dst K elem size len parts z h = RowK F a dst K elem len len h (fillL (fun i => some (i * size, size)) (cyc z.cells.toList 0 (len * size)) parts) := rfl
def BS2 (P : Program) (F : Fr) (a : Act) (dst : Option Tmp) (K : Act → Hp → Prop) (elem len : Nat) (parts : List (Nat × Value)) (size : Nat) (h : Hp) : Prop :=
  len * size ≤ 16777216 ∧ if len * size = 0 then RowK F a dst K elem len len h (fillL (fun i => some (i * size, size)) [] parts) else dwp P F (zeroValue elem) h (BS3 F a dst K elem size len parts)
theorem BS2_app {elem size len : Nat} {parts : List (Nat × Value)} : BS2 P F a dst K elem len parts size h =
  (len * size ≤ 16777216 ∧ if len * size = 0 then RowK F a dst K elem len len h (fillL (fun i => some (i * size, size)) [] parts) else dwp P F (zeroValue elem) h (BS3 F a dst K elem size len parts)) := rfl
def BS1 (P : Program) (F : Fr) (a : Act) (dst : Option Tmp) (K : Act → Hp → Prop) (len : Nat) (parts : List (Nat × Value)) : TypeDesc → Hp → Prop
  | .slice elem, h => dwp P F (sizeOf elem) h (BS2 P F a dst K elem len parts)
  | _, _ => False
theorem BS1_app {elem len : Nat} {parts : List (Nat × Value)} : BS1 P F a dst K len parts (.slice elem) h = dwp P F (sizeOf elem) h (BS2 P F a dst K elem len parts) := rfl

theorem dop_buildSlice {t len : Nat} {parts : Array (Nat × Operand)} :
    dwp P F (underlying t) h (BS1 P F a dst K len (parts.toList.map fun p => (p.1, a.eval p.2))) → dop P F ⟨dst, .buildSlice t len parts, ty, pos, af, g⟩ a h K := by
  intro H
  unfold dop
  simp only [execOp, Instr.buildSlice]
  rw [dwp_bind', dwp_bind']
  refine dwp_mono (fun d h1 H1 => ?_) _ _ H
  cases d <;> simp only [BS1] at H1
  rename_i elem
  show dwp P F (_ >>= _) h1 _
  rw [dwp_bind']
  refine dwp_mono (fun size h2 H2 => ?_) _ _ H1
  simp only [BS2] at H2
  obtain ⟨hle, H2⟩ := H2
  show dwp P F (if len * size > 2 ^ 24 then _ else _) h2 _
  rw [if_neg (by omega)]
  have fin_ : ∀ (cs : List Value) (h3 : Hp), RowK F a dst K elem len len h3 (fillL (fun i => some (i * size, size)) cs (parts.toList.map fun p => (p.1, a.eval p.2))) →
      dwp P F (match Instr.fill (fun i => some (i * size, size)) cs.toArray ((parts.map fun x => (x.1, a.eval x.2)).toList) with
        | some cells => (do let r ← newRow elem cells; pure (Value.slice (some r) len len) : Sem Value)
        | _ => stuck "buildSlice: a part of the wrong size") h3 (BindK P F (fun v => pure (Next.value v)) (fin P F ⟨dst, .buildSlice t len parts, ty, pos, af, g⟩ a K)) := by
    intro cs h3 H3
    rw [fill_eq]
    have hm : (parts.map fun x => (x.1, a.eval x.2)).toList = parts.toList.map fun p => (p.1, a.eval p.2) := by simp
    rw [hm]
    cases hf : fillL (fun i => some (i * size, size)) cs (parts.toList.map fun p => (p.1, a.eval p.2)) with
    | none => rw [hf] at H3; exact H3.elim
    | some cells => rw [hf] at H3; exact H3
  by_cases hz : len * size = 0
  · rw [if_pos hz] at H2
    have h0 : ∀ f : Nat → Value, (Array.range 0).map f = #[] := fun f => by simp
    simp only [hz, if_true, pure_bind, h0]
    exact fin_ [] h2 H2
  · rw [if_neg hz] at H2
    simp only [hz, if_false]
    show dwp P F (_ >>= _) h2 _
    rw [dwp_bind']
    refine dwp_mono (fun z h3 H3 => ?_) _ _ H2
    show dwp P F (match Instr.fill (fun i => some (i * size, size)) ((Array.range (len * size)).map fun i => z.cells[i % z.cells.size]!) _ with | some cells => _ | _ => _) h3 _
    rw [range_cyc]
    exact fin_ _ h3 H3

/-! ### A struct or an array out of its parts -/
def BD3 (a : Act) (dst : Option Tmp) (K : Act → Hp → Prop) (h : Hp) : Option (List Value) → Prop
  | some cs => K (a.put dst (.agg cs.toArray)) h
  | none => False
theorem BD3_some {cs : List Value} : BD3 a dst K h (some cs) = K (a.put dst (.agg cs.toArray)) h := rfl
/-- Where the fields lie: their places and sizes, one behind the other. -/
def PlK (P : Program) (F : Fr) (a : Act) (dst : Option Tmp) (K : Act → Hp → Prop) (z : List Value) (parts : List (Nat × Value)) : List Field → List (Nat × Nat) → Hp → Prop
  | [], acc, h => BD3 a dst K h (fillL (fun i => acc[i]?) z parts)
  | f :: r, acc, h => dwp P F (sizeOf f.type) h (fun s h' => PlK P F a dst K z parts r (acc ++ [(f.offset, s)]) h')
theorem PlK_nil {z : List Value} {parts : List (Nat × Value)} {acc : List (Nat × Nat)} : PlK P F a dst K z parts [] acc h = BD3 a dst K h (fillL (fun i => acc[i]?) z parts) := rfl
def PlC (P : Program) (F : Fr) (a : Act) (dst : Option Tmp) (K : Act → Hp → Prop) (z : List Value) (parts : List (Nat × Value)) (r : List Field) (acc : List (Nat × Nat)) (o s : Nat) (h : Hp) : Prop := PlK P F a dst K z parts r (acc ++ [(o, s)]) h
theorem PlC_app {z : List Value} {parts : List (Nat × Value)} {acc : List (Nat × Nat)} {r : List Field} {o s : Nat} : PlC P F a dst K z parts r acc o s h = PlK P F a dst K z parts r (acc ++ [(o, s)]) h := rfl
theorem PlK_cons {z : List Value} {parts : List (Nat × Value)} {acc : List (Nat × Nat)} {f : Field} {r : List Field} : PlK P F a dst K z parts (f :: r) acc h = dwp P F (sizeOf f.type) h (PlC P F a dst K z parts r acc f.offset) := rfl
def BD2 (P : Program) (F : Fr) (a : Act) (dst : Option Tmp) (K : Act → Hp → Prop) (z : List Value) (parts : List (Nat × Value)) : TypeDesc → Hp → Prop
  | .struct fields, h => PlK P F a dst K z parts fields.toList [] h
  | .array _ elem, h => dwp P F (sizeOf elem) h (fun s h' => BD3 a dst K h' (fillL (fun i => some (i * s, s)) z parts))
  | _, _ => False
def BDA (a : Act) (dst : Option Tmp) (K : Act → Hp → Prop) (z : List Value) (parts : List (Nat × Value)) (s : Nat) (h : Hp) : Prop := BD3 a dst K h (fillL (fun i => some (i * s, s)) z parts)
theorem BDA_app {z : List Value} {parts : List (Nat × Value)} {s : Nat} : BDA a dst K z parts s h = BD3 a dst K h (fillL (fun i => some (i * s, s)) z parts) := rfl
theorem BD2_struct {z : List Value} {parts : List (Nat × Value)} {fields : List Field} : BD2 P F a dst K z parts (.struct fields.toArray) h = PlK P F a dst K z parts fields [] h := rfl
theorem BD2_array {z : List Value} {parts : List (Nat × Value)} {n elem : Nat} : BD2 P F a dst K z parts (.array n elem) h = dwp P F (sizeOf elem) h (BDA a dst K z parts) := rfl
def BD1 (P : Program) (F : Fr) (a : Act) (dst : Option Tmp) (K : Act → Hp → Prop) (t : TypeId) (parts : List (Nat × Value)) (z : Value) (h : Hp) : Prop := dwp P F (underlying t) h (BD2 P F a dst K z.cells.toList parts)
theorem BD1_app {t : TypeId} {parts : List (Nat × Value)} {z : Value} : BD1 P F a dst K t parts z h = dwp P F (underlying t) h (BD2 P F a dst K z.cells.toList parts) := rfl

theorem dwp_places {β : Type} {f : List (Nat × Nat) → Sem β} {KK : β → Hp → Prop} (z : List Value) (parts : List (Nat × Value)) (hf : ∀ l h, BD3 a dst K h (fillL (fun i => l[i]?) z parts) → dwp P F (f l) h KK) :
    ∀ (l : List Field) (acc : List (Nat × Nat)) (h : Hp), PlK P F a dst K z parts l acc h →
      dwp P F (l.mapM (fun (x : Field) => (do pure (x.offset, ← sizeOf x.type) : Sem (Nat × Nat))) >>= fun r => f (acc ++ r)) h KK := by
  intro l
  induction l with
  | nil => intro acc h hh; rw [List.mapM_nil, pure_bind, List.append_nil]; exact hf _ _ hh
  | cons x l ih =>
    intro acc h hh
    rw [List.mapM_cons]
    simp only [bind_assoc, pure_bind]
    rw [dwp_bind']
    refine dwp_mono (fun s h1 H1 => ?_) _ _ hh
    have := ih _ _ H1
    simp only [List.append_assoc, List.singleton_append] at this
    exact this

theorem dop_build {t : TypeId} {parts : Array (Nat × Operand)} :
    dwp P F (zeroValue t) h (BD1 P F a dst K t (parts.toList.map fun p => (p.1, a.eval p.2))) → dop P F ⟨dst, .build t parts, ty, pos, af, g⟩ a h K := by
  intro H
  unfold dop
  simp only [execOp, Instr.build]
  rw [dwp_bind', dwp_bind']
  refine dwp_mono (fun z h1 H1 => ?_) _ _ H
  show dwp P F (underlying t >>= _) h1 _
  rw [dwp_bind']
  refine dwp_mono (fun d h2 H2 => ?_) _ _ H1
  have hm : (parts.map fun x => (x.1, a.eval x.2)).toList = parts.toList.map fun p => (p.1, a.eval p.2) := by simp
  have fin_ : ∀ (why : String) (pl : Nat → Option (Nat × Nat)) (h3 : Hp), BD3 a dst K h3 (fillL pl z.cells.toList (parts.toList.map fun p => (p.1, a.eval p.2))) →
      dwp P F (match Instr.fill pl z.cells ((parts.map fun x => (x.1, a.eval x.2)).toList) with
        | some cells => (pure (Value.agg cells) : Sem Value)
        | _ => stuck why) h3 (BindK P F (fun v => pure (Next.value v)) (fin P F ⟨dst, .build t parts, ty, pos, af, g⟩ a K)) := by
    intro why pl h3 H3
    rw [show z.cells = z.cells.toList.toArray by simp, fill_eq, hm]
    cases hf : fillL pl z.cells.toList (parts.toList.map fun p => (p.1, a.eval p.2)) with
    | none => rw [hf] at H3; exact H3.elim
    | some cells => rw [hf] at H3; exact H3
  cases d <;> simp only [BD2] at H2
  · show dwp P F (_ >>= _) h2 _
    rw [dwp_bind']
    refine dwp_mono (fun s h3 H3 => ?_) _ _ H2
    exact fin_ _ _ h3 H3
  · rename_i fields
    show dwp P F ((fields.mapM _) >>= _) h2 _
    rw [Array.mapM_eq_mapM_toList]
    simp only [map_eq_pure_bind, bind_assoc, pure_bind]
    have := dwp_places (P := P) (F := F) (a := a) (K := K) (dst := dst) (f := fun l => (match Instr.fill (fun i => l.toArray[i]?) z.cells ((parts.map fun x => (x.1, a.eval x.2)).toList) with
        | some cells => (pure (Value.agg cells) : Sem Value)
        | _ => stuck "build: no such field, or a part of the wrong size")) (KK := BindK P F (fun v => pure (Next.value v)) (fin P F ⟨dst, .build t parts, ty, pos, af, g⟩ a K)) z.cells.toList (parts.toList.map fun p => (p.1, a.eval p.2))
      (fun l h hh => fin_ _ _ h (by simpa only [List.getElem?_toArray] using hh)) fields.toList [] h2 H2
    simp only [List.nil_append] at this
    exact this
end
end Go.SL

namespace Go.SL
open Go.RowKit
section
variable {P : Program} {F : Fr} {h : Hp} {a : Act} {K : Act → Hp → Prop} {dst : Option Tmp} {ty : TypeId} {pos : String} {af : Array Edge} {g : Option (Nat × Bool)}
theorem dop_makeMap (t : TypeId) (r : Option Operand) : dop P F ⟨dst, .makeMap t r, ty, pos, af, g⟩ a h K = dwp P F (execOp a.eval ⟨dst, .makeMap t r, ty, pos, af, g⟩) h (fin P F ⟨dst, .makeMap t r, ty, pos, af, g⟩ a K) := rfl
theorem dop_makeSlice (t : TypeId) (x y : Operand) : dop P F ⟨dst, .makeSlice t x y, ty, pos, af, g⟩ a h K = dwp P F (execOp a.eval ⟨dst, .makeSlice t x y, ty, pos, af, g⟩) h (fin P F ⟨dst, .makeSlice t x y, ty, pos, af, g⟩ a K) := rfl
theorem dop_nilCheck (x : Operand) : dop P F ⟨dst, .nilCheck x, ty, pos, af, g⟩ a h K = dwp P F (execOp a.eval ⟨dst, .nilCheck x, ty, pos, af, g⟩) h (fin P F ⟨dst, .nilCheck x, ty, pos, af, g⟩ a K) := rfl
theorem dop_binOp (b : BinOp) (t : TypeId) (x y : Operand) (u : TypeId) : dop P F ⟨dst, .binOp b t x y u, ty, pos, af, g⟩ a h K = dwp P F (execOp a.eval ⟨dst, .binOp b t x y u, ty, pos, af, g⟩) h (fin P F ⟨dst, .binOp b t x y u, ty, pos, af, g⟩ a K) := rfl
theorem dop_unOp (b : UnOp) (t : TypeId) (x : Operand) : dop P F ⟨dst, .unOp b t x, ty, pos, af, g⟩ a h K = dwp P F (execOp a.eval ⟨dst, .unOp b t x, ty, pos, af, g⟩) h (fin P F ⟨dst, .unOp b t x, ty, pos, af, g⟩ a K) := rfl
theorem dop_convert (s d : TypeId) (x : Operand) : dop P F ⟨dst, .convert s d x, ty, pos, af, g⟩ a h K = dwp P F (execOp a.eval ⟨dst, .convert s d x, ty, pos, af, g⟩) h (fin P F ⟨dst, .convert s d x, ty, pos, af, g⟩ a K) := rfl
theorem dop_makeInterface (t : TypeId) (x : Operand) : dop P F ⟨dst, .makeInterface t x, ty, pos, af, g⟩ a h K = dwp P F (execOp a.eval ⟨dst, .makeInterface t x, ty, pos, af, g⟩) h (fin P F ⟨dst, .makeInterface t x, ty, pos, af, g⟩ a K) := rfl
theorem dop_makeFunc (f : Fn) (x y : Array Operand) : dop P F ⟨dst, .makeFunc f x y, ty, pos, af, g⟩ a h K = dwp P F (execOp a.eval ⟨dst, .makeFunc f x y, ty, pos, af, g⟩) h (fin P F ⟨dst, .makeFunc f x y, ty, pos, af, g⟩ a K) := rfl
theorem dop_slice (t : TypeId) (x : Operand) (l m n : Option Operand) : dop P F ⟨dst, .slice t x l m n, ty, pos, af, g⟩ a h K = dwp P F (execOp a.eval ⟨dst, .slice t x l m n, ty, pos, af, g⟩) h (fin P F ⟨dst, .slice t x l m n, ty, pos, af, g⟩ a K) := rfl
theorem dop_fieldAddr (t : TypeId) (x : Operand) (i : Nat) : dop P F ⟨dst, .fieldAddr t x i, ty, pos, af, g⟩ a h K = dwp P F (execOp a.eval ⟨dst, .fieldAddr t x i, ty, pos, af, g⟩) h (fin P F ⟨dst, .fieldAddr t x i, ty, pos, af, g⟩ a K) := rfl
theorem dop_field (t : TypeId) (x : Operand) (i : Nat) : dop P F ⟨dst, .field t x i, ty, pos, af, g⟩ a h K = dwp P F (execOp a.eval ⟨dst, .field t x i, ty, pos, af, g⟩) h (fin P F ⟨dst, .field t x i, ty, pos, af, g⟩ a K) := rfl
theorem dop_indexAddr (t : TypeId) (x y : Operand) : dop P F ⟨dst, .indexAddr t x y, ty, pos, af, g⟩ a h K = dwp P F (execOp a.eval ⟨dst, .indexAddr t x y, ty, pos, af, g⟩) h (fin P F ⟨dst, .indexAddr t x y, ty, pos, af, g⟩ a K) := rfl
theorem dop_index (t : TypeId) (x y : Operand) : dop P F ⟨dst, .index t x y, ty, pos, af, g⟩ a h K = dwp P F (execOp a.eval ⟨dst, .index t x y, ty, pos, af, g⟩) h (fin P F ⟨dst, .index t x y, ty, pos, af, g⟩ a K) := rfl
theorem dop_lookup (t : TypeId) (x y : Operand) (b : Bool) : dop P F ⟨dst, .lookup t x y b, ty, pos, af, g⟩ a h K = dwp P F (execOp a.eval ⟨dst, .lookup t x y b, ty, pos, af, g⟩) h (fin P F ⟨dst, .lookup t x y b, ty, pos, af, g⟩ a K) := rfl
theorem dop_mapUpdate (t : TypeId) (x y z : Operand) : dop P F ⟨dst, .mapUpdate t x y z, ty, pos, af, g⟩ a h K = dwp P F (execOp a.eval ⟨dst, .mapUpdate t x y z, ty, pos, af, g⟩) h (fin P F ⟨dst, .mapUpdate t x y z, ty, pos, af, g⟩ a K) := rfl
theorem dop_extract (x : Operand) (i : Nat) : dop P F ⟨dst, .extract x i, ty, pos, af, g⟩ a h K = dwp P F (execOp a.eval ⟨dst, .extract x i, ty, pos, af, g⟩) h (fin P F ⟨dst, .extract x i, ty, pos, af, g⟩ a K) := rfl
theorem dop_call (c : Call) : dop P F ⟨dst, .call c, ty, pos, af, g⟩ a h K = dwp P F (execOp a.eval ⟨dst, .call c, ty, pos, af, g⟩) h (fin P F ⟨dst, .call c, ty, pos, af, g⟩ a K) := rfl
theorem dop_load (t : TypeId) (x : Operand) : dop P F ⟨dst, .load t x, ty, pos, af, g⟩ a h K = dwp P F (execOp a.eval ⟨dst, .load t x, ty, pos, af, g⟩) h (fin P F ⟨dst, .load t x, ty, pos, af, g⟩ a K) := rfl
theorem dop_store (t : TypeId) (x y : Operand) : dop P F ⟨dst, .store t x y, ty, pos, af, g⟩ a h K = dwp P F (execOp a.eval ⟨dst, .store t x y, ty, pos, af, g⟩) h (fin P F ⟨dst, .store t x y, ty, pos, af, g⟩ a K) := rfl
theorem dop_move (x : Operand) : dop P F ⟨dst, .move x, ty, pos, af, g⟩ a h K = K (a.put dst (a.eval x)) h := rfl
theorem dop_assign (x : Operand) : dop P F ⟨dst, .assign x, ty, pos, af, g⟩ a h K = K (a.put dst (a.eval x)) h := rfl
def PickK (a : Act) (dst : Option Tmp) (K : Act → Hp → Prop) (x y : Value) (h : Hp) : Value → Prop
  | .bool b => K (a.put dst (if b then x else y)) h
  | _ => False
theorem PickK_true {x y : Value} : PickK a dst K x y h (.bool true) = K (a.put dst x) h := rfl
theorem PickK_false {x y : Value} : PickK a dst K x y h (.bool false) = K (a.put dst y) h := rfl
theorem PickK.split {x y : Value} {b : Bool} (h1 : b = true → K (a.put dst x) h) (h2 : b = false → K (a.put dst y) h) : PickK a dst K x y h (.bool b) := by
  cases b
  · exact h2 rfl
  · exact h1 rfl
theorem dop_pick (c x y : Operand) : dop P F ⟨dst, .pick c x y, ty, pos, af, g⟩ a h K = PickK a dst K (a.eval x) (a.eval y) h (a.eval c) := by
  unfold dop
  simp only [execOp]
  cases a.eval c <;> rfl
/-- A new variable. -/
def PtrN (a : Act) (dst : Option Tmp) (K : Act → Hp → Prop) (g : Nat) (h : Hp) : Prop := K (a.put dst (.pointer (some ⟨g, 0, none⟩))) h
theorem PtrN_app {g : Nat} : PtrN a dst K g h = K (a.put dst (.pointer (some ⟨g, 0, none⟩))) h := rfl
theorem dop_box (t : TypeId) (x : Operand) : dop P F ⟨dst, .box t x, ty, pos, af, g⟩ a h K = NewK F (.cells (a.eval x).cells t) (PtrN a dst K) h := rfl
def AlZ (F : Fr) (a : Act) (dst : Option Tmp) (K : Act → Hp → Prop) (t : TypeId) (z : Value) (h : Hp) : Prop := NewK F (.cells z.cells t) (PtrN a dst K) h
theorem AlZ_app {t : TypeId} {z : Value} : AlZ F a dst K t z h = NewK F (.cells z.cells t) (PtrN a dst K) h := rfl
theorem dop_alloc (t : TypeId) : dop P F ⟨dst, .alloc t, ty, pos, af, g⟩ a h K = dwp P F (zeroValue t) h (AlZ F a dst K t) := by
  unfold dop
  simp only [execOp, Instr.alloc, newVar, newRow]
  rw [dwp_bind', dwp_bind']
  congr 1
end
theorem set_set {h : Hp} {g : Nat} {o o' : Obj} : (h.set g o).set g o' = h.set g o' := by
  unfold Hp.set
  congr 1
  funext k
  by_cases e : k = g <;> simp [e]
end Go.SL
