/-
  A walk over a part of memory, eleventh part: integers whose bounds are known; slices that the call itself makes and appends to; maps of integers.
  Conditions: none. Plain theorems and definitions.
-/
import Derived.Test.YtdhdfdaclbfkiaaS8
import Derived.Laws.Append
set_option linter.unusedVariables false
set_option linter.unusedSimpArgs false
namespace Go.SL
open Go.RowKit
theorem i64o {n : Int} (h1 : -9223372036854775808 ≤ n) (h2 : n ≤ 9223372036854775807) : IntKind.i64.wrap n = n := IntWalk.i64_in _ ⟨h1, h2⟩
theorem tdivo {a b : Int} (h1 : 0 ≤ a) (h2 : 0 < b) : a.tdiv b = a / b := Int.tdiv_eq_ediv_of_nonneg h1
theorem tmodo {a b : Int} (h1 : 0 ≤ a) : a.tmod b = a % b := Int.tmod_eq_emod_of_nonneg h1
theorem quo_eqo {t : TypeId} {k : IntKind} {a b : Int} (h : b ≠ 0) : binOp .quo t (.int k a) (.int k b) = pure (.int k (k.wrap (a.tdiv b))) := quo_eq (by simpa using h)
theorem rem_eqo {t : TypeId} {k : IntKind} {a b : Int} (h : b ≠ 0) : binOp .rem t (.int k a) (.int k b) = pure (.int k (a.tmod b)) := rem_eq (by simpa using h)
theorem dleT {a b : Int} (h : a ≤ b) : decide (a ≤ b) = true := by simpa using h
theorem dleF {a b : Int} (h : b < a) : decide (a ≤ b) = false := by simpa using h
theorem dltT {a b : Int} (h : a < b) : decide (a < b) = true := by simpa using h
theorem dltF {a b : Int} (h : b ≤ a) : decide (a < b) = false := by simpa using h
theorem deqT {a b : Int} (h : a = b) : decide (a = b) = true := by simpa using h
theorem deqF {a b : Int} (h : a ≠ b) : decide (a = b) = false := by simpa using h
theorem beqT {a b : Int} (h : a = b) : (a == b) = true := by simpa using h
theorem beqF {a b : Int} (h : a ≠ b) : (a == b) = false := by simpa using h
theorem peq0 {a : Int} (h : a ≠ 0) : (a = 0) = False := by simpa using h
theorem bneT {a b : Int} (h : a ≠ b) : (a != b) = true := by simpa using h
theorem bneF {a b : Int} (h : a = b) : (a != b) = false := by simpa using h
theorem readV_len {ro : Addr → Option Value} {b : Nat} : ∀ {n off : Nat} {xs : List Value}, readV ro b off n = some xs → xs.length = n := by
  intro n
  induction n with
  | zero => intro off xs e; simp only [readV, Option.some.injEq] at e; subst e; rfl
  | succ n ih =>
    intro off xs e
    rw [readV_succ] at e
    unfold readVC at e
    split at e
    · cases hr : readV ro b (off + 1) n with
      | none => rw [hr] at e; cases e
      | some r => rw [hr] at e; simp only [Option.map_some, Option.some.injEq] at e; subst e; simp [ih hr]
    · cases e
section
variable {α β : Type} {P : Program} {F : Fr} {h : Hp}
theorem add_none {b off i : Nat} : (⟨b, off, none⟩ : Addr).add i = ⟨b, off + i, none⟩ := by
  unfold Addr.add
  split <;> simp_all
theorem set_self {g : Nat} {o : Obj} (e : h.own g = some o) : h.set g o = h := by
  unfold Hp.set
  cases h
  congr 1
  funext k
  split
  · rename_i hk; subst hk; exact e.symm
  · rfl
theorem dwp_loadCellsFrom {b off : Nat} {K : Array Value → Hp → Prop} : ∀ (n i : Nat) (acc : Array Value) (xs : List Value), readV (h.cell? F) b (off + i) n = some xs →
    dwp P F (loadCellsFrom ⟨b, off, none⟩ i n acc) h K = K (acc ++ xs.toArray) h := by
  intro n
  induction n with
  | zero =>
    intro i acc xs e
    simp only [readV, Option.some.injEq] at e
    subst e
    simp only [loadCellsFrom, dwp_pure', Array.append_empty]
  | succ n ih =>
    intro i acc xs e
    rw [readV_succ] at e
    unfold loadCellsFrom
    rw [dwp_bind', dwp_load', add_none]
    cases hc : h.cell? F ⟨b, off + i, none⟩ with
    | none => rw [hc] at e; cases e
    | some v =>
      rw [hc, readVC_some] at e
      cases hr : readV (h.cell? F) b (off + i + 1) n with
      | none => rw [hr] at e; cases e
      | some r =>
        rw [hr, Option.map_some, Option.some.injEq] at e
        subst e
        rw [CellK_some, BindK_app, ih (i + 1) _ r (by rw [← Nat.add_assoc]; exact hr)]
        congr 1
        simp
theorem dwp_loadCells {b off n : Nat} {xs : List Value} {K : Array Value → Hp → Prop} (e : readV (h.cell? F) b off n = some xs) : dwp P F (loadCells ⟨b, off, none⟩ n) h K = K xs.toArray h := by
  unfold loadCells
  rw [dwp_loadCellsFrom n 0 #[] xs (by simpa using e)]
  simp
theorem dwp_storeCells {g e off : Nat} {K : Unit → Hp → Prop} : ∀ (ys : List Value) (i : Nat) (h : Hp) (cur : List Value), h.own g = some (.cells cur.toArray e (0, 0)) → off + i + ys.length ≤ cur.length → (∀ y ∈ ys, notAgg y = true) →
    K () (h.set g (.cells (putAt cur (off + i) ys).toArray e (0, 0))) → dwp P F (storeCells ⟨g, off, none⟩ ys i) h K := by
  intro ys
  induction ys with
  | nil =>
    intro i h cur ho hl hn hk
    rw [putAt_nil, set_self ho] at hk
    unfold storeCells
    exact hk
  | cons y ys ih =>
    intro i h cur ho hl hn hk
    unfold storeCells
    rw [dwp_bind', dwp_store', add_none]
    simp only [ho, StoreK_some]
    simp only [List.length_cons] at hl
    refine ⟨hn y (by simp), trivial, by simp; omega, by simp, ?_⟩
    rw [BindK_app]
    refine ih (i + 1) _ (cur.set (off + i) y) (by simp [Hp.own_set]) (by simp; omega) (fun z hz => hn z (by simp [hz])) ?_
    rw [putAt_cons] at hk
    rw [set_set]
    exact hk
theorem putAt_mid : ∀ (ys xs tl : List Value), ys.length ≤ tl.length → putAt (xs ++ tl) xs.length ys = xs ++ ys ++ tl.drop ys.length := by
  intro ys
  induction ys with
  | nil => intro xs tl _; simp [putAt_nil]
  | cons y ys ih =>
    intro xs tl hl
    cases tl with
    | nil => simp at hl
    | cons t tl =>
      rw [putAt_cons]
      have e : (xs ++ t :: tl).set xs.length y = (xs ++ [y]) ++ tl := by simp
      rw [e]
      have := ih (xs ++ [y]) tl (by simpa using hl)
      rw [show (xs ++ [y]).length = xs.length + 1 by simp] at this
      rw [this]
      simp

/-! ### Slices of the call's own -/
/-- v is a slice of n elements of type e whose cells are xs, in a block that is owned from its first cell on (or nil). -/
def Own (F : Fr) (h : Hp) (e size : Nat) (v : Value) (n : Nat) (xs : List Value) : Prop :=
  xs.length = n * size ∧ ((v = .slice none 0 0 ∧ n = 0) ∨
    ∃ g cap tl, v = .slice (some ⟨g, 0, none⟩) n cap ∧ F.w0.heap.size ≤ g ∧ h.own g = some (.cells (xs ++ tl).toArray e (0, 0)) ∧ n ≤ cap ∧ (xs ++ tl).length = cap * size)
theorem Own.nil {e size : Nat} : Own F h e size (.slice none 0 0) 0 [] := ⟨by simp, .inl ⟨rfl, rfl⟩⟩
theorem Own.made {g e size n : Nat} {xs : List Value} (hg : F.w0.heap.size ≤ g) (ho : h.own g = some (.cells xs.toArray e (0, 0))) (hl : xs.length = n * size) : Own F h e size (.slice (some ⟨g, 0, none⟩) n n) n xs :=
  ⟨hl, .inr ⟨g, n, [], rfl, hg, by simpa using ho, Nat.le_refl _, by simpa using hl⟩⟩
theorem Own.owned {e size n : Nat} {v : Value} {xs : List Value} (o : Own F h e size v n xs) : ∀ b, blk v = some b → ∃ ob, h.own b = some ob := by
  intro b hb
  rcases o.2 with ⟨rfl, _⟩ | ⟨g, cap, tl, rfl, h1, h2, _⟩
  · cases hb
  · rw [blk_some] at hb; cases hb; exact ⟨_, h2⟩
theorem Own.nblk {e size n : Nat} {v : Value} {xs : List Value} (o : Own F h e size v n xs) : ∀ b, h.own b = none → blk v ≠ some b := by
  intro b hb hc
  obtain ⟨ob, ho⟩ := o.owned b hc
  rw [hb] at ho
  cases ho
theorem Own.kept {h' : Hp} {e size n : Nat} {v : Value} {xs : List Value} (o : Own F h e size v n xs) (hk : ∀ b ob, blk v = some b → h.own b = some ob → h'.own b = some ob) : Own F h' e size v n xs := by
  refine ⟨o.1, ?_⟩
  rcases o.2 with hn | ⟨g, cap, tl, rfl, h1, h2, h3⟩
  · exact .inl hn
  · exact .inr ⟨g, cap, tl, rfl, h1, hk g _ rfl h2, h3⟩
theorem readV_row {g e off : Nat} {tl : List Value} (hg : F.w0.heap.size ≤ g) : ∀ (xs pre : List Value), h.own g = some (.cells (pre ++ xs ++ tl).toArray e (0, 0)) → pre.length = off → readV (h.cell? F) g off xs.length = some xs := by
  intro xs
  induction xs generalizing off with
  | nil => exact fun _ _ _ => rfl
  | cons x xs ih =>
    intro pre ho hp
    rw [List.length_cons, readV_succ]
    have hc : h.cell? F ⟨g, off, none⟩ = some x := by
      rw [Hp.cell_def, Fr.ro_new hg, RoC_none, ho, OwnC_some]
      subst hp
      simp
    rw [hc, readVC_some, ih (off := off + 1) (pre ++ [x]) (by simpa using ho) (by simp [hp])]
    rfl
/-- Its cells can be read. -/
theorem Own.read {e size n : Nat} {v : Value} {xs : List Value} (o : Own F h e size v n xs) : ∀ g cap, v = .slice (some ⟨g, 0, none⟩) n cap → readV (h.cell? F) g 0 (n * size) = some xs := by
  intro g cap hv
  rcases o.2 with ⟨rfl, _⟩ | ⟨g', cap', tl, rfl, h1, h2, h3⟩
  · cases hv
  · cases hv
    rw [← o.1]
    exact readV_row h1 xs [] (by simpa using h2) rfl
theorem fresh_ne {v : Value} {g x : Nat} {o : Obj} (hf : blk v = some g ∨ (h.own g = none ∧ F.w0.heap.size ≤ g)) (h1 : blk v ≠ some x) (h2 : h.own x = some o) : g ≠ x := by
  rintro rfl
  rcases hf with hf | ⟨hf, _⟩
  · exact h1 hf
  · rw [h2] at hf; cases hf
theorem fresh_blk {e size n : Nat} {v u : Value} {xs : List Value} {g : Nat} (hf : blk v = some g ∨ (h.own g = none ∧ F.w0.heap.size ≤ g)) (hu : Own F h e size u n xs) (hd : ∀ b, blk v = some b → blk u ≠ some b) : blk u ≠ some g := by
  intro hb
  rcases hf with hf | ⟨hf, _⟩
  · exact hd g hf hb
  · obtain ⟨ob, ho⟩ := hu.owned g hb
    rw [ho] at hf; cases hf
theorem Own.other {e size n g : Nat} {v : Value} {xs : List Value} {ob : Obj} (o : Own F h e size v n xs) (hg : blk v ≠ some g) : Own F (h.set g ob) e size v n xs :=
  o.kept fun b o' hb ho => by rw [Hp.own_set, if_neg (by rintro rfl; exact hg hb)]; exact ho
theorem Own.drop {e size n g : Nat} {v : Value} {xs : List Value} (o : Own F h e size v n xs) (hg : blk v ≠ some g) : Own F (h.drop g) e size v n xs :=
  o.kept fun b o' hb ho => by rw [Hp.own_drop, if_neg (by rintro rfl; exact hg hb)]; exact ho
theorem Own.dropV {e size n : Nat} {v u : Value} {xs : List Value} (o : Own F h e size v n xs) (hd : ∀ b, blk v = some b → blk u ≠ some b) : Own F (dropV h u) e size v n xs :=
  o.kept fun b o' hb ho => by rw [dropV_own (hd b hb)]; exact ho
/-- Integers as cells. -/
def ints (l : List Int) : List Value := l.map (Value.int .i64)
theorem ints_snoc (l : List Int) (x : Int) : ints (l ++ [x]) = ints l ++ [.int .i64 x] := by simp [ints]
theorem ints_len (l : List Int) : (ints l).length = l.length := by simp [ints]
theorem readI_ints {ro : Addr → Option Value} {b : Nat} : ∀ {l : List Int} {off n : Nat}, readV ro b off n = some (ints l) → readI ro b off n = some l := by
  intro l
  induction l with
  | nil =>
    intro off n e
    cases n with
    | zero => rfl
    | succ n => have := readV_len e; simp [ints] at this
  | cons x r ih =>
    intro off n e
    cases n with
    | zero => have := readV_len e; simp [ints] at this
    | succ n =>
      rw [readV_succ] at e
      rw [readI_succ]
      unfold readVC at e
      split at e
      · rename_i v hv
        cases hr : readV ro b (off + 1) n with
        | none => rw [hr] at e; cases e
        | some q =>
          rw [hr] at e
          simp only [Option.map_some, Option.some.injEq, ints, List.map_cons, List.cons.injEq] at e
          obtain ⟨rfl, rfl⟩ := e
          rw [hv, readC_some, ih hr]
          rfl
      · cases e
theorem Own.some {e size n : Nat} {v : Value} {xs : List Value} (o : Own F h e size v n xs) (hn : 0 < n) : ∃ g cap, v = .slice (some ⟨g, 0, none⟩) n cap ∧ readV (h.cell? F) g 0 (n * size) = some xs := by
  rcases o.2 with ⟨_, h0⟩ | ⟨g, cap, tl, hv, h1, h2, h3⟩
  · omega
  · exact ⟨g, cap, hv, o.read g cap hv⟩
theorem Own.len {e size n : Nat} {v : Value} {xs : List Value} (o : Own F h e size v n xs) : ∃ p cap, v = .slice p n cap := by
  rcases o.2 with ⟨rfl, rfl⟩ | ⟨g, cap, tl, hv, _⟩
  · exact ⟨_, _, rfl⟩
  · exact ⟨_, _, hv⟩
/-- What a type is, as 'append' asks it. -/
def okInfo (P : Program) (e size bytes : Nat) : Bool := match P.info? e with
  | some i => i.size == size && i.bytes == bytes && (match i.zero with | some z => z.cells.size == size | none => false)
  | none => false
theorem okInfo_spec {e size bytes : Nat} (h : okInfo P e size bytes = true) : ∃ i z, P.info? e = some i ∧ i.zero = some z ∧ i.size = size ∧ i.bytes = bytes ∧ z.cells.size = size := by
  unfold okInfo at h
  split at h
  · rename_i i hi
    simp only [Bool.and_eq_true, beq_iff_eq] at h
    obtain ⟨⟨h1, h2⟩, h3⟩ := h
    split at h3
    · rename_i z hz
      exact ⟨i, z, hi, hz, h1, h2, by simpa using h3⟩
    · cases h3
  · cases h
theorem dwp_choose {q : Question} {K : Nat → Hp → Prop} (hq : q.forced = false) (H : ∀ n, K (q.cut n) h) : dwp P F (choose q) h K := by
  show (if q.forced then _ else _)
  rw [hq]
  exact H
theorem dwp_append {t ty e b off m c size bytes : Nat} {v : Value} {n : Nat} {xs ys : List Value} {K : Value → Hp → Prop}
    (ht : P.underlying t = some (.slice e)) (hinf : okInfo P e size bytes = true) (hb0 : bytes ≠ 0) (hm0 : 0 < m)
    (hv : Own F h e size v n xs) (hr : readV (h.cell? F) b off (m * size) = some ys) (hn : ∀ y ∈ ys, notAgg y = true) (hlim : (n + m) * bytes ≤ 140737488355328)
    (H : ∀ v' g ob, (blk v = some g ∨ (h.own g = none ∧ F.w0.heap.size ≤ g)) → blk v' = some g → Own F (h.set g ob) e size v' (n + m) (xs ++ ys) → K v' (h.set g ob)) :
    dwp P F (Builtin.append_ #[t, t] ty #[v, .slice (some ⟨b, off, none⟩) m c]) h K := by
  obtain ⟨i, z, hi, hz, hsz, hby, hzs⟩ := okInfo_spec hinf
  have hly : ys.length = m * size := readV_len hr
  have hsz' : ∀ {K : Nat → Hp → Prop}, dwp P F (sizeOf e) h K = K size h := by
    intro K; rw [dwp_sizeOf, hi]; simp [OptK, hsz]
  have hti : ∀ {K : TypeInfo → Hp → Prop}, dwp P F (typeInfo e) h K = K i h := by
    intro K; simp only [typeInfo, dwp_bind', dwp_program, BindK_app, hi]; rfl
  have hze : ∀ {K : Value → Hp → Prop}, dwp P F (zeroValue e) h K = K z h := by
    intro K; rw [dwp_zeroValue, hi]; simp [OptK, hz]
  have hun : ∀ {K : TypeDesc → Hp → Prop}, dwp P F (underlying t) h K = K (.slice e) h := by
    intro K; rw [dwp_underlying, ht]; rfl
  have hlc : ∀ {K : Array Value → Hp → Prop}, dwp P F (loadCells ⟨b, off, none⟩ (m * size)) h K = K ys.toArray h := dwp_loadCells hr
  have key : ∀ (base : Option Addr) (sCap : Nat), sCap < n + m → v = .slice base n sCap → (∀ {K : Array Value → Hp → Prop}, dwp P F (Builtin.firstCells size n (.slice base n sCap)) h K = K xs.toArray h) →
      dwp P F (Builtin.append_ #[t, t] ty #[.slice base n sCap, .slice (some ⟨b, off, none⟩) m c]) h K := by
    intro base sCap hlt hve hfc
    have hcap : ¬ (n + m ≤ sCap) := by omega
    have hbig : ¬ ((9223372036854775807 : Int) < (n : Int) + (m : Int) ∧ i.bytes = 0) := by rintro ⟨_, h1⟩; omega
    have hnx : ¬ (281474976710656 < Builtin.nextslicecap (n + m) sCap * i.bytes) := by
      have := growslice_fits hlt hlim
      rw [hby]
      omega
    have hfy : ∀ {K : Array Value → Hp → Prop}, dwp P F (Builtin.firstCells size m (.slice (some ⟨b, off, none⟩) m c)) h K = K ys.toArray h := hlc
    have hmk : ∀ {k : Nat} {K : Unit → Hp → Prop}, dwp P F (askRoom k) h K = K () h := by
      intro k K; unfold askRoom; split <;> rfl
    simp [Builtin.append_, dwp_bind', hun, BindK_app, hsz', dwp_pure', Builtin.lenOf, hcap, hti, hbig, hnx]
    refine dwp_choose (by rfl) (fun k => ?_)
    simp only [BindK_app, Question.cut, dwp_bind', hti, hmk, hfc, hfy, hze, newRow, dwp_newObj, dwp_pure']
    intro g hg1 hg2
    simp only [BindK_app, dwp_pure']
    refine H _ _ _ (.inr ⟨hg2, hg1⟩) rfl ⟨by rw [List.length_append, hv.1, hly, Nat.add_mul], .inr ⟨g, _, (Builtin.zeroCells z.cells (n + m + k % (2 ^ 63 - (n + m)) - (n + m))).toList, rfl, hg1, ?_, by omega, ?_⟩⟩
    · simp [Hp.own_set]
    · rw [List.length_append, List.length_append, hv.1, hly, Array.length_toList, size_zeroCells, hzs, ← Nat.add_mul, ← Nat.add_mul]
      congr 1
      omega
  rcases hv.2 with ⟨rfl, rfl⟩ | ⟨g, cap, tl, rfl, hg, ho, hcap, hl⟩
  · have hx : xs = [] := List.eq_nil_of_length_eq_zero (by simpa using hv.1)
    subst hx
    exact key none 0 (by omega) rfl (by intro K; simp [Builtin.firstCells, dwp_pure'])
  · by_cases hroom : n + m ≤ cap
    · have hfy : ∀ {K : Array Value → Hp → Prop}, dwp P F (Builtin.firstCells size m (.slice (some ⟨b, off, none⟩) m c)) h K = K ys.toArray h := hlc
      have hle : ys.length ≤ tl.length := by
        have h1 : (n + m) * size ≤ cap * size := Nat.mul_le_mul_right _ hroom
        rw [List.length_append, hv.1] at hl
        rw [hly]
        rw [Nat.add_mul] at h1
        omega
      simp [Builtin.append_, dwp_bind', hun, BindK_app, hsz', dwp_pure', Builtin.lenOf, hroom, hfy]
      rw [map_eq_pure_bind, dwp_bind', add_none, ← hv.1, Nat.zero_add]
      refine dwp_storeCells (off := xs.length) ys 0 h (xs ++ tl) ho (by rw [List.length_append]; omega) hn ?_
      rw [Nat.add_zero, putAt_mid ys xs tl hle]
      simp only [BindK_app, dwp_pure']
      refine H _ _ _ (.inl rfl) rfl ⟨by rw [List.length_append, hv.1, hly, Nat.add_mul], .inr ⟨g, cap, tl.drop ys.length, rfl, hg, by simp [Hp.own_set], hroom, ?_⟩⟩
      rw [← hl]; simp; omega
    · exact key (some ⟨g, 0, none⟩) cap (by omega) rfl (by
        intro K
        have := hv.read (F := F) (h := h) g cap rfl
        exact dwp_loadCells this)
end
end Go.SL
