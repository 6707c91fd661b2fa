/-
  A walk over a part of memory, twelfth part: products and quotients whose bounds are known; what '==' asks ahead.
  Conditions: none. Plain theorems.
-/
import Derived.Test.YtdhdfdaclbfkiaaS11
set_option linter.unusedVariables false
set_option linter.unusedSimpArgs false
namespace Go.SL
open Go.RowKit
theorem mul_bd {a b A B : Int} (h1 : -A ≤ a) (h2 : a ≤ A) (h3 : -B ≤ b) (h4 : b ≤ B) : -(A * B) ≤ a * b ∧ a * b ≤ A * B := by
  have hA : 0 ≤ A := by omega
  have hB : 0 ≤ B := by omega
  have e1 : a * b ≤ A * B := by
    rcases Int.le_total 0 b with hb | hb
    · exact Int.le_trans (Int.mul_le_mul_of_nonneg_right h2 hb) (Int.mul_le_mul_of_nonneg_left h4 hA)
    · have := Int.mul_le_mul_of_nonneg_right (show -a ≤ A by omega) (show 0 ≤ -b by omega)
      have h5 := Int.mul_le_mul_of_nonneg_left (show -b ≤ B by omega) hA
      rw [Int.neg_mul_neg] at this
      omega
  have e2 : -(a * b) ≤ A * B := by
    rcases Int.le_total 0 b with hb | hb
    · have := Int.mul_le_mul_of_nonneg_right (show -a ≤ A by omega) hb
      have h5 := Int.mul_le_mul_of_nonneg_left h4 hA
      rw [Int.neg_mul] at this
      omega
    · have := Int.mul_le_mul_of_nonneg_right h2 (show 0 ≤ -b by omega)
      have h5 := Int.mul_le_mul_of_nonneg_left (show -b ≤ B by omega) hA
      rw [Int.mul_neg] at this
      omega
  omega
theorem tdiv_bd {a g B : Int} (hg : 0 ≤ g) (h1 : -B ≤ a) (h2 : a ≤ B) : -B ≤ a.tdiv g ∧ a.tdiv g ≤ B := by
  have h := Int.natAbs_tdiv a g
  have h3 : a.natAbs.div g.natAbs ≤ a.natAbs := Nat.div_le_self _ _
  omega
theorem i64w {n : Int} (h1 : -9223372036854775808 ≤ n) (h2 : n ≤ 9223372036854775807) : IntKind.i64.wrap n = n := IntWalk.i64_in _ ⟨h1, h2⟩
theorem dry_eqGuardE {P : Program} {t : TypeId} {x y : Operand} {a b : Array Value} (hg : P.eqGuardType P.depth t = false) : dry P (eqGuard .eql t x y (.agg a) (.agg b)) = some () := by
  simp [eqGuard, dry_bind', dry_program, DB_some, dry_pure', hg]
theorem dry_eqGuardN {P : Program} {t : TypeId} {x y : Operand} {a b : Array Value} (hg : P.eqGuardType P.depth t = false) : dry P (eqGuard .neq t x y (.agg a) (.agg b)) = some () := by
  simp [eqGuard, dry_bind', dry_program, DB_some, dry_pure', hg]
theorem dwp_eqGuardE {P : Program} {F : Fr} {h : Hp} {K : Unit → Hp → Prop} {t : TypeId} {x y : Operand} {a b : Array Value} (hg : P.eqGuardType P.depth t = false) : dwp P F (eqGuard .eql t x y (.agg a) (.agg b)) h K = K () h := dry_dwp _ (dry_eqGuardE hg)
theorem dwp_eqGuardN {P : Program} {F : Fr} {h : Hp} {K : Unit → Hp → Prop} {t : TypeId} {x y : Operand} {a b : Array Value} (hg : P.eqGuardType P.depth t = false) : dwp P F (eqGuard .neq t x y (.agg a) (.agg b)) h K = K () h := dry_dwp _ (dry_eqGuardN hg)
theorem rval_eqGuardE {P : Program} {F : Fr} {S : Hp} {t : TypeId} {x y : Operand} {a b : Array Value} (hg : P.eqGuardType P.depth t = false) : rval P F (eqGuard .eql t x y (.agg a) (.agg b)) S = some () := dry_rval _ (dry_eqGuardE hg)
theorem rval_eqGuardN {P : Program} {F : Fr} {S : Hp} {t : TypeId} {x y : Operand} {a b : Array Value} (hg : P.eqGuardType P.depth t = false) : rval P F (eqGuard .neq t x y (.agg a) (.agg b)) S = some () := dry_rval _ (dry_eqGuardN hg)
end Go.SL
