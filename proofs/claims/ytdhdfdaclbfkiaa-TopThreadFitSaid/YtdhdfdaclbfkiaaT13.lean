/-
  Walks. Conditions: none.
-/
import Derived.Test.YtdhdfdaclbfkiaaT11
set_option linter.unusedVariables false
set_option linter.unusedSimpArgs false
namespace Go.Proofs.Ytdhdfdaclbfkiaa
open Go.RowKit Go.SL
set_option maxHeartbeats 1000000
set_option maxRecDepth 1000000
attribute [local go_sem] fl_getD fl_get fl_set lk_def st_def gL_nil gL_zero gL_succ sL_nil_zero sL_nil_succ sL_zero sL_succ Option.getD_none FgK_app onlyL_nil onlyL_none onlyL_some setO_some toB_bool toB_undef yl_def
attribute [local go_sem high] GuardK_yl GuardL_yl
theorem ceil_iff {w d C : Int} (hd : 0 < d) : (w + d - 1) / d ≤ C ↔ w ≤ C * d := by
  rw [Int.le_iff_lt_add_one, Int.ediv_lt_iff_lt_mul hd, Int.add_mul]
  omega
theorem roomV_nonneg (l r l' r' lo hi : Int) (h : 0 < l + r) : 0 ≤ roomV l r l' r' lo hi := by
  unfold roomV
  split
  · omega
  · rw [if_neg (by omega)]
    exact Int.ediv_nonneg (by omega) (by omega)
theorem room_iff (l r l' r' lo hi C : Int) (h : 0 < l + r) (hC : 0 ≤ C) : roomV l r l' r' lo hi ≤ C ↔ wideV l r l' r' lo hi ≤ C * (l + r) := by
  unfold roomV
  split
  · rename_i hw
    have : 0 ≤ C * (l + r) := Int.mul_nonneg hC (by omega)
    constructor <;> intro <;> omega
  · rw [if_neg (by omega)]
    exact ceil_iff h
theorem mostF_bd2 {lo hi n : Int} (h1 : -1000 ≤ lo ∧ lo ≤ 1000) (h2 : -1000 ≤ hi ∧ hi ≤ 1000) (h3 : -1000 ≤ n ∧ n ≤ 1000) : -1000000 ≤ mostF lo hi n ∧ mostF lo hi n ≤ 1000000 := by
  have m1 := mul_bd (a := lo) (b := n) (A := 1000) (B := 1000) (by omega) (by omega) (by omega) (by omega)
  have m2 := mul_bd (a := hi) (b := n) (A := 1000) (B := 1000) (by omega) (by omega) (by omega) (by omega)
  unfold mostF
  omega
theorem wide_most (l r l' r' lo hi : Int) : wideV l r l' r' lo hi = mostF lo hi (l' - l) + mostF lo hi (r' - r) := rfl
theorem fold0 : ∀ (r : List Int), (∀ x ∈ r, x = 0) → r.foldl max 0 = 0
  | [], _ => rfl
  | x :: r, h => by
    have hx := h x (List.mem_cons_self ..)
    subst hx
    exact fold0 r fun y hy => h y (List.mem_cons_of_mem _ hy)
theorem maxL_zero {n : Nat} {f : Nat → Int} (h : ∀ k, k < n → f k = 0) : maxL ((List.range n).map f) = 0 := by
  cases n with
  | zero => rfl
  | succ m =>
    rw [List.range_succ_eq_map, List.map_cons, h 0 (by omega)]
    refine fold0 _ fun x hx => ?_
    obtain ⟨y, hy, rfl⟩ := List.mem_map.1 hx
    obtain ⟨z, hz, rfl⟩ := List.mem_map.1 hy
    exact h _ (by have := List.mem_range.1 hz; omega)
/-- By how much a perfect thread of another form sticks out. -/
theorem sz_perfect {q l r l' r' lo hi : Int} {n : Nat} : szF (4 * q) l' r' lo hi l r 1 (prL (4 * q) 0 n) n = 4 * wideV l r l' r' lo hi := by
  have e1 : lfF (4 * q) 1 (prL (4 * q) 0 n) n = (List.range n).map fun k => -1 * flL (4 * q) ((prL (4 * q) 0 n).getD k (0, 0)) k := rfl
  have e2 : rfF (4 * q) 1 (prL (4 * q) 0 n) n = (List.range n).map fun k => 1 * flR (4 * q) ((prL (4 * q) 0 n).getD k (0, 0)) k := rfl
  unfold szF
  rw [e1, e2, maxL_zero, maxL_zero, wide_most, Int.one_mul, Int.one_mul]
  · omega
  · intro k hk
    rw [prL_get hk]
    unfold flR prT
    dsimp only
    rw [Int.mul_assoc 4 (k : Int) (4 * q)]
    generalize (k : Int) * (4 * q) = m
    omega
  · intro k hk
    rw [prL_get hk]
    unfold flL prT
    dsimp only
    rw [Int.mul_assoc 4 (k : Int) (4 * q)]
    generalize (k : Int) * (4 * q) = m
    omega
theorem ceil_le0 {w b : Int} (hb : 0 < b) : ceilV (4 * w) (4 * b) ≤ 0 ↔ w ≤ 0 := by
  unfold ceilV
  constructor
  · intro h
    apply Classical.byContradiction
    intro hw
    have := Int.ediv_neg_of_neg_of_pos (a := -(4 * w)) (b := 4 * b) (by omega) (by omega)
    omega
  · intro h
    have := Int.ediv_nonneg (a := -(4 * w)) (b := 4 * b) (by omega) (by omega)
    omega
theorem roomV_zero {l r l' r' lo hi : Int} (h : 0 < l + r) : roomV l r l' r' lo hi = 0 ↔ wideV l r l' r' lo hi ≤ 0 := by
  have h1 := roomV_nonneg l r l' r' lo hi h
  have h2 := room_iff l r l' r' lo hi 0 h (by omega)
  rw [Int.zero_mul] at h2
  omega
theorem roomV_ge (l r l' r' lo hi : Int) (h : 0 < l + r) : wideV l r l' r' lo hi ≤ roomV l r l' r' lo hi * (l + r) := (room_iff l r l' r' lo hi _ h (roomV_nonneg l r l' r' lo hi h)).1 (Int.le_refl _)
/-- A turn that is thinner on both sides. -/
def smT (p u w : Int) (k : Nat) : Int × Int := ((prT p 0 k).1 + u, (prT p 0 k).2 - w)
def smL (p u w : Int) (n j : Nat) : List (Int × Int) := (List.range n).map fun k => if k < j then smT p u w k else prT p 0 k
theorem smL_zero {p u w : Int} {n : Nat} : smL p u w n 0 = prL p 0 n := by
  unfold smL prL
  exact List.map_congr_left fun k _ => by rw [if_neg (by omega)]
theorem smL_all {p u w : Int} {n : Nat} : smL p u w n n = (List.range n).map (smT p u w) := by
  unfold smL
  exact List.map_congr_left fun k hk => by rw [if_pos (List.mem_range.1 hk)]
theorem smL_len {p u w : Int} {n j : Nat} : (smL p u w n j).length = n := by unfold smL; simp
theorem smL_set {p u w : Int} {n j : Nat} : (smL p u w n j).set j (smT p u w j) = smL p u w n (j + 1) := by
  unfold smL
  apply List.ext_getElem
  · simp
  · intro i h1 h2
    by_cases hi : i = j
    · subst hi
      simp
    · rw [List.getElem_set, if_neg (fun e => hi e.symm)]
      simp only [List.getElem_map, List.getElem_range]
      by_cases h3 : i < j
      · rw [if_pos h3, if_pos (by omega)]
      · rw [if_neg h3, if_neg (by omega)]
theorem smL_at {p u w : Int} {n j : Nat} (h : j < n) : (smL p u w n j)[j]? = some (prT p 0 j) := by
  unfold smL
  rw [List.getElem?_map, List.getElem?_range h, Option.map_some, if_neg (by omega)]
theorem tn_get {tl : List Value} : ∀ {L : List (Int × Int)} {j : Nat} {x : Int × Int}, L[j]? = some x → (L.flatMap tnC ++ tl)[j * 2]? = some (.int .i64 x.1) ∧ (L.flatMap tnC ++ tl)[j * 2 + 1]? = some (.int .i64 x.2)
  | y :: L, 0, x, h => by simp only [List.getElem?_cons_zero, Option.some.injEq] at h; subst h; exact ⟨rfl, rfl⟩
  | y :: L, j + 1, x, h => by
    have := tn_get (tl := tl) (L := L) (j := j) (x := x) (by simpa using h)
    rw [List.flatMap_cons, show (j + 1) * 2 = j * 2 + 1 + 1 by omega]
    exact this
theorem tn_set {tl : List Value} {a b : Int} : ∀ {L : List (Int × Int)} {j : Nat}, j < L.length → ((L.flatMap tnC ++ tl).set (j * 2) (.int .i64 a)).set (j * 2 + 1) (.int .i64 b) = (L.set j (a, b)).flatMap tnC ++ tl
  | y :: L, 0, _ => rfl
  | y :: L, j + 1, h => by
    have := tn_set (tl := tl) (a := a) (b := b) (L := L) (j := j) (by simpa using h)
    rw [List.flatMap_cons, List.set_cons_succ, List.flatMap_cons, show (j + 1) * 2 = j * 2 + 1 + 1 by omega]
    show .int .i64 y.1 :: .int .i64 y.2 :: ((L.flatMap tnC ++ tl).set (j * 2) (.int .i64 a)).set (j * 2 + 1) (.int .i64 b) = _
    rw [this]
    rfl
theorem sm_okT {q u w : Int} (hq : 0 ≤ q ∧ q ≤ 50000) (hu : 0 ≤ u) (hw : 0 ≤ w) (h : u + w ≤ 2 * q) : ∀ (m j : Nat) (a : Int), j + m ≤ 40 → a ≤ (j : Int) * (4 * q) - q + u → okT a ((List.range' j m).map (smT (4 * q) u w))
  | 0, _, _, _, _ => trivial
  | m + 1, j, a, hj, ha => by
    rw [List.range'_succ, List.map_cons]
    have mb := mul_bd (a := (j : Int)) (b := 4 * q) (A := 40) (B := 200000) (by omega) (by omega) (by omega) (by omega)
    have e : ((j + 1 : Nat) : Int) * (4 * q) = (j : Int) * (4 * q) + 4 * q := by push_cast; rw [Int.add_mul]; omega
    refine ⟨⟨?_, ?_, ?_⟩, sm_okT hq hu hw h m (j + 1) _ (by omega) ?_⟩
    · unfold smT prT; dsimp only; omega
    · unfold smT prT; dsimp only; omega
    · unfold smT prT; dsimp only; omega
    · rw [e]; unfold smT prT; dsimp only; omega
theorem sm_ThOk {q u w l r : Int} {n : Nat} (hq : 0 ≤ q ∧ q ≤ 50000) (hu : 0 ≤ u) (hw : 0 ≤ w) (h : u + w ≤ 2 * q) (hn : 1 ≤ n ∧ n ≤ 40) (hl : 0 ≤ l ∧ l ≤ 3000) (hr : 0 ≤ r ∧ r ≤ 3000) : ThOk n l r (smL (4 * q) u w n n) :=
  ⟨by omega, hl, hr, smL_len, by
    rw [smL_all, List.range_eq_range']
    exact sm_okT hq hu hw h n 0 _ (by omega) (by push_cast; omega)⟩
/-- The shifts of a screw that is smaller by its room. -/
theorem sm_shift {lo hi l r l' r' q u w : Int} {n : Nat} (hn : 1 ≤ n) : shF (ndF lo hi l r l' r' (smL (4 * q) u w n n) (prL (4 * q) 0 n)) n = (1000 * -u + mostF lo hi (l' - l), 1000 * w - mostF lo hi (r' - r)) := by
  refine shF_const hn fun j hj => ?_
  unfold ndF
  rw [smL_all, prL_get hj, List.getD_eq_getElem?_getD, List.getElem?_map, List.getElem?_range hj]
  unfold needF smT prT
  refine Prod.ext ?_ ?_
  · dsimp only [Option.map_some, Option.getD_some]; omega
  · dsimp only [Option.map_some, Option.getD_some]; omega

end Go.Proofs.Ytdhdfdaclbfkiaa
