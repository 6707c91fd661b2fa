/-
  The types of the program, as the walk over a part of memory asks them. Conditions: none. Printed by facts.py (own program).
-/
import Derived.Test.YtdhdfdaclbfkiaaProg
import Derived.Test.YtdhdfdaclbfkiaaS8
import Derived.Test.YtdhdfdaclbfkiaaFx1
namespace Go.Proofs.Ytdhdfdaclbfkiaa
open Go Go.SL Go.RowKit
set_option linter.unusedVariables false
theorem ni138 : Try.prog.inits.idxOf? 138 = none := by kernel_rfl
theorem en139 {F : Fr} {h : Hp} {xs : Array Value} {K : Next → Hp → Prop} : dwp Try.prog F (callFunc 139 xs) h K = K (.enter 139 xs) h := dwp_callFunc (by unfold entB; rw [Try.func139]; rfl)
theorem re139 {F : Fr} {S : Hp} {xs : Array Value} : rval Try.prog F (callFunc 139 xs) S = some (.enter 139 xs) := rval_callFunc (by unfold entB; rw [Try.func139]; rfl)
theorem ni139 : Try.prog.inits.idxOf? 139 = none := by kernel_rfl
theorem en140 {F : Fr} {h : Hp} {xs : Array Value} {K : Next → Hp → Prop} : dwp Try.prog F (callFunc 140 xs) h K = K (.enter 140 xs) h := dwp_callFunc (by unfold entB; rw [Try.func140]; rfl)
theorem re140 {F : Fr} {S : Hp} {xs : Array Value} : rval Try.prog F (callFunc 140 xs) S = some (.enter 140 xs) := rval_callFunc (by unfold entB; rw [Try.func140]; rfl)
theorem ni140 : Try.prog.inits.idxOf? 140 = none := by kernel_rfl
theorem en141 {F : Fr} {h : Hp} {xs : Array Value} {K : Next → Hp → Prop} : dwp Try.prog F (callFunc 141 xs) h K = K (.enter 141 xs) h := dwp_callFunc (by unfold entB; rw [Try.func141]; rfl)
theorem re141 {F : Fr} {S : Hp} {xs : Array Value} : rval Try.prog F (callFunc 141 xs) S = some (.enter 141 xs) := rval_callFunc (by unfold entB; rw [Try.func141]; rfl)
theorem ni141 : Try.prog.inits.idxOf? 141 = none := by kernel_rfl
theorem en142 {F : Fr} {h : Hp} {xs : Array Value} {K : Next → Hp → Prop} : dwp Try.prog F (callFunc 142 xs) h K = K (.enter 142 xs) h := dwp_callFunc (by unfold entB; rw [Try.func142]; rfl)
theorem re142 {F : Fr} {S : Hp} {xs : Array Value} : rval Try.prog F (callFunc 142 xs) S = some (.enter 142 xs) := rval_callFunc (by unfold entB; rw [Try.func142]; rfl)
theorem ni142 : Try.prog.inits.idxOf? 142 = none := by kernel_rfl
theorem en143 {F : Fr} {h : Hp} {xs : Array Value} {K : Next → Hp → Prop} : dwp Try.prog F (callFunc 143 xs) h K = K (.enter 143 xs) h := dwp_callFunc (by unfold entB; rw [Try.func143]; rfl)
theorem re143 {F : Fr} {S : Hp} {xs : Array Value} : rval Try.prog F (callFunc 143 xs) S = some (.enter 143 xs) := rval_callFunc (by unfold entB; rw [Try.func143]; rfl)
theorem ni143 : Try.prog.inits.idxOf? 143 = none := by kernel_rfl
theorem en144 {F : Fr} {h : Hp} {xs : Array Value} {K : Next → Hp → Prop} : dwp Try.prog F (callFunc 144 xs) h K = K (.enter 144 xs) h := dwp_callFunc (by unfold entB; rw [Try.func144]; rfl)
theorem re144 {F : Fr} {S : Hp} {xs : Array Value} : rval Try.prog F (callFunc 144 xs) S = some (.enter 144 xs) := rval_callFunc (by unfold entB; rw [Try.func144]; rfl)
theorem ni144 : Try.prog.inits.idxOf? 144 = none := by kernel_rfl
theorem en145 {F : Fr} {h : Hp} {xs : Array Value} {K : Next → Hp → Prop} : dwp Try.prog F (callFunc 145 xs) h K = K (.enter 145 xs) h := dwp_callFunc (by unfold entB; rw [Try.func145]; rfl)
theorem re145 {F : Fr} {S : Hp} {xs : Array Value} : rval Try.prog F (callFunc 145 xs) S = some (.enter 145 xs) := rval_callFunc (by unfold entB; rw [Try.func145]; rfl)
theorem ni145 : Try.prog.inits.idxOf? 145 = none := by kernel_rfl
theorem en146 {F : Fr} {h : Hp} {xs : Array Value} {K : Next → Hp → Prop} : dwp Try.prog F (callFunc 146 xs) h K = K (.enter 146 xs) h := dwp_callFunc (by unfold entB; rw [Try.func146]; rfl)
theorem re146 {F : Fr} {S : Hp} {xs : Array Value} : rval Try.prog F (callFunc 146 xs) S = some (.enter 146 xs) := rval_callFunc (by unfold entB; rw [Try.func146]; rfl)
theorem ni146 : Try.prog.inits.idxOf? 146 = none := by kernel_rfl
theorem en147 {F : Fr} {h : Hp} {xs : Array Value} {K : Next → Hp → Prop} : dwp Try.prog F (callFunc 147 xs) h K = K (.enter 147 xs) h := dwp_callFunc (by unfold entB; rw [Try.func147]; rfl)
theorem re147 {F : Fr} {S : Hp} {xs : Array Value} : rval Try.prog F (callFunc 147 xs) S = some (.enter 147 xs) := rval_callFunc (by unfold entB; rw [Try.func147]; rfl)
theorem ni147 : Try.prog.inits.idxOf? 147 = none := by kernel_rfl
theorem en148 {F : Fr} {h : Hp} {xs : Array Value} {K : Next → Hp → Prop} : dwp Try.prog F (callFunc 148 xs) h K = K (.enter 148 xs) h := dwp_callFunc (by unfold entB; rw [Try.func148]; rfl)
theorem re148 {F : Fr} {S : Hp} {xs : Array Value} : rval Try.prog F (callFunc 148 xs) S = some (.enter 148 xs) := rval_callFunc (by unfold entB; rw [Try.func148]; rfl)
theorem ni148 : Try.prog.inits.idxOf? 148 = none := by kernel_rfl
theorem en149 {F : Fr} {h : Hp} {xs : Array Value} {K : Next → Hp → Prop} : dwp Try.prog F (callFunc 149 xs) h K = K (.enter 149 xs) h := dwp_callFunc (by unfold entB; rw [Try.func149]; rfl)
theorem re149 {F : Fr} {S : Hp} {xs : Array Value} : rval Try.prog F (callFunc 149 xs) S = some (.enter 149 xs) := rval_callFunc (by unfold entB; rw [Try.func149]; rfl)
theorem ni149 : Try.prog.inits.idxOf? 149 = none := by kernel_rfl
theorem en150 {F : Fr} {h : Hp} {xs : Array Value} {K : Next → Hp → Prop} : dwp Try.prog F (callFunc 150 xs) h K = K (.enter 150 xs) h := dwp_callFunc (by unfold entB; rw [Try.func150]; rfl)
theorem re150 {F : Fr} {S : Hp} {xs : Array Value} : rval Try.prog F (callFunc 150 xs) S = some (.enter 150 xs) := rval_callFunc (by unfold entB; rw [Try.func150]; rfl)
theorem ni150 : Try.prog.inits.idxOf? 150 = none := by kernel_rfl
theorem en151 {F : Fr} {h : Hp} {xs : Array Value} {K : Next → Hp → Prop} : dwp Try.prog F (callFunc 151 xs) h K = K (.enter 151 xs) h := dwp_callFunc (by unfold entB; rw [Try.func151]; rfl)
theorem re151 {F : Fr} {S : Hp} {xs : Array Value} : rval Try.prog F (callFunc 151 xs) S = some (.enter 151 xs) := rval_callFunc (by unfold entB; rw [Try.func151]; rfl)
theorem ni151 : Try.prog.inits.idxOf? 151 = none := by kernel_rfl
theorem en152 {F : Fr} {h : Hp} {xs : Array Value} {K : Next → Hp → Prop} : dwp Try.prog F (callFunc 152 xs) h K = K (.enter 152 xs) h := dwp_callFunc (by unfold entB; rw [Try.func152]; rfl)
theorem re152 {F : Fr} {S : Hp} {xs : Array Value} : rval Try.prog F (callFunc 152 xs) S = some (.enter 152 xs) := rval_callFunc (by unfold entB; rw [Try.func152]; rfl)
theorem ni152 : Try.prog.inits.idxOf? 152 = none := by kernel_rfl
theorem en153 {F : Fr} {h : Hp} {xs : Array Value} {K : Next → Hp → Prop} : dwp Try.prog F (callFunc 153 xs) h K = K (.enter 153 xs) h := dwp_callFunc (by unfold entB; rw [Try.func153]; rfl)
theorem re153 {F : Fr} {S : Hp} {xs : Array Value} : rval Try.prog F (callFunc 153 xs) S = some (.enter 153 xs) := rval_callFunc (by unfold entB; rw [Try.func153]; rfl)
theorem ni153 : Try.prog.inits.idxOf? 153 = none := by kernel_rfl
theorem en154 {F : Fr} {h : Hp} {xs : Array Value} {K : Next → Hp → Prop} : dwp Try.prog F (callFunc 154 xs) h K = K (.enter 154 xs) h := dwp_callFunc (by unfold entB; rw [Try.func154]; rfl)
theorem re154 {F : Fr} {S : Hp} {xs : Array Value} : rval Try.prog F (callFunc 154 xs) S = some (.enter 154 xs) := rval_callFunc (by unfold entB; rw [Try.func154]; rfl)
theorem ni154 : Try.prog.inits.idxOf? 154 = none := by kernel_rfl
theorem en155 {F : Fr} {h : Hp} {xs : Array Value} {K : Next → Hp → Prop} : dwp Try.prog F (callFunc 155 xs) h K = K (.enter 155 xs) h := dwp_callFunc (by unfold entB; rw [Try.func155]; rfl)
theorem re155 {F : Fr} {S : Hp} {xs : Array Value} : rval Try.prog F (callFunc 155 xs) S = some (.enter 155 xs) := rval_callFunc (by unfold entB; rw [Try.func155]; rfl)
theorem ni155 : Try.prog.inits.idxOf? 155 = none := by kernel_rfl
theorem en156 {F : Fr} {h : Hp} {xs : Array Value} {K : Next → Hp → Prop} : dwp Try.prog F (callFunc 156 xs) h K = K (.enter 156 xs) h := dwp_callFunc (by unfold entB; rw [Try.func156]; rfl)
theorem re156 {F : Fr} {S : Hp} {xs : Array Value} : rval Try.prog F (callFunc 156 xs) S = some (.enter 156 xs) := rval_callFunc (by unfold entB; rw [Try.func156]; rfl)
theorem ni156 : Try.prog.inits.idxOf? 156 = none := by kernel_rfl
theorem en157 {F : Fr} {h : Hp} {xs : Array Value} {K : Next → Hp → Prop} : dwp Try.prog F (callFunc 157 xs) h K = K (.enter 157 xs) h := dwp_callFunc (by unfold entB; rw [Try.func157]; rfl)
theorem re157 {F : Fr} {S : Hp} {xs : Array Value} : rval Try.prog F (callFunc 157 xs) S = some (.enter 157 xs) := rval_callFunc (by unfold entB; rw [Try.func157]; rfl)
theorem ni157 : Try.prog.inits.idxOf? 157 = none := by kernel_rfl
theorem en158 {F : Fr} {h : Hp} {xs : Array Value} {K : Next → Hp → Prop} : dwp Try.prog F (callFunc 158 xs) h K = K (.enter 158 xs) h := dwp_callFunc (by unfold entB; rw [Try.func158]; rfl)
theorem re158 {F : Fr} {S : Hp} {xs : Array Value} : rval Try.prog F (callFunc 158 xs) S = some (.enter 158 xs) := rval_callFunc (by unfold entB; rw [Try.func158]; rfl)
theorem ni158 : Try.prog.inits.idxOf? 158 = none := by kernel_rfl
theorem en159 {F : Fr} {h : Hp} {xs : Array Value} {K : Next → Hp → Prop} : dwp Try.prog F (callFunc 159 xs) h K = K (.enter 159 xs) h := dwp_callFunc (by unfold entB; rw [Try.func159]; rfl)
theorem re159 {F : Fr} {S : Hp} {xs : Array Value} : rval Try.prog F (callFunc 159 xs) S = some (.enter 159 xs) := rval_callFunc (by unfold entB; rw [Try.func159]; rfl)
theorem ni159 : Try.prog.inits.idxOf? 159 = none := by kernel_rfl
theorem en160 {F : Fr} {h : Hp} {xs : Array Value} {K : Next → Hp → Prop} : dwp Try.prog F (callFunc 160 xs) h K = K (.enter 160 xs) h := dwp_callFunc (by unfold entB; rw [Try.func160]; rfl)
theorem re160 {F : Fr} {S : Hp} {xs : Array Value} : rval Try.prog F (callFunc 160 xs) S = some (.enter 160 xs) := rval_callFunc (by unfold entB; rw [Try.func160]; rfl)
theorem ni160 : Try.prog.inits.idxOf? 160 = none := by kernel_rfl
theorem en161 {F : Fr} {h : Hp} {xs : Array Value} {K : Next → Hp → Prop} : dwp Try.prog F (callFunc 161 xs) h K = K (.enter 161 xs) h := dwp_callFunc (by unfold entB; rw [Try.func161]; rfl)
theorem re161 {F : Fr} {S : Hp} {xs : Array Value} : rval Try.prog F (callFunc 161 xs) S = some (.enter 161 xs) := rval_callFunc (by unfold entB; rw [Try.func161]; rfl)
theorem ni161 : Try.prog.inits.idxOf? 161 = none := by kernel_rfl
theorem en162 {F : Fr} {h : Hp} {xs : Array Value} {K : Next → Hp → Prop} : dwp Try.prog F (callFunc 162 xs) h K = K (.enter 162 xs) h := dwp_callFunc (by unfold entB; rw [Try.func162]; rfl)
theorem re162 {F : Fr} {S : Hp} {xs : Array Value} : rval Try.prog F (callFunc 162 xs) S = some (.enter 162 xs) := rval_callFunc (by unfold entB; rw [Try.func162]; rfl)
theorem ni162 : Try.prog.inits.idxOf? 162 = none := by kernel_rfl
theorem en163 {F : Fr} {h : Hp} {xs : Array Value} {K : Next → Hp → Prop} : dwp Try.prog F (callFunc 163 xs) h K = K (.enter 163 xs) h := dwp_callFunc (by unfold entB; rw [Try.func163]; rfl)
theorem re163 {F : Fr} {S : Hp} {xs : Array Value} : rval Try.prog F (callFunc 163 xs) S = some (.enter 163 xs) := rval_callFunc (by unfold entB; rw [Try.func163]; rfl)
theorem ni163 : Try.prog.inits.idxOf? 163 = none := by kernel_rfl
theorem en164 {F : Fr} {h : Hp} {xs : Array Value} {K : Next → Hp → Prop} : dwp Try.prog F (callFunc 164 xs) h K = K (.enter 164 xs) h := dwp_callFunc (by unfold entB; rw [Try.func164]; rfl)
theorem re164 {F : Fr} {S : Hp} {xs : Array Value} : rval Try.prog F (callFunc 164 xs) S = some (.enter 164 xs) := rval_callFunc (by unfold entB; rw [Try.func164]; rfl)
theorem ni164 : Try.prog.inits.idxOf? 164 = none := by kernel_rfl
theorem dry_eql4 {a b : Bool} : dry Try.prog (binOp .eql 4 (.bool a) (.bool b)) = some (.bool (a == b)) := dry_eqlB Try.underlying4
theorem dwp_eql4 {F : Fr} {h : Hp} {K : Value → Hp → Prop} {a b : Bool} : dwp Try.prog F (binOp .eql 4 (.bool a) (.bool b)) h K = K (.bool (a == b)) h := dry_dwp _ dry_eql4
theorem rval_eql4 {F : Fr} {S : Hp} {a b : Bool} : rval Try.prog F (binOp .eql 4 (.bool a) (.bool b)) S = some (.bool (a == b)) := dry_rval _ dry_eql4
theorem dry_eql30 {a0 b0 a1 b1 : Int} : dry Try.prog (binOp .eql 30 (.agg #[.int .i64 a0, .int .i64 a1]) (.agg #[.int .i64 b0, .int .i64 b1])) = some (.bool ((a0 == b0) && ((a1 == b1) && true))) := dry_eqlS Try.underlying30 (by kernel_rfl) (eqF_int rfl Try.isAgg3 Try.underlying3 rfl rfl (eqF_int rfl Try.isAgg3 Try.underlying3 rfl rfl eqF_nil))
theorem dwp_eql30 {F : Fr} {h : Hp} {K : Value → Hp → Prop} {a0 b0 a1 b1 : Int} : dwp Try.prog F (binOp .eql 30 (.agg #[.int .i64 a0, .int .i64 a1]) (.agg #[.int .i64 b0, .int .i64 b1])) h K = K (.bool ((a0 == b0) && ((a1 == b1) && true))) h := dry_dwp _ dry_eql30
theorem rval_eql30 {F : Fr} {S : Hp} {a0 b0 a1 b1 : Int} : rval Try.prog F (binOp .eql 30 (.agg #[.int .i64 a0, .int .i64 a1]) (.agg #[.int .i64 b0, .int .i64 b1])) S = some (.bool ((a0 == b0) && ((a1 == b1) && true))) := dry_rval _ dry_eql30
theorem eg30 : Try.prog.eqGuardType Try.prog.depth 30 = false := by kernel_rfl
theorem dry_eql39 {a0 b0 a1 b1 : Int} : dry Try.prog (binOp .eql 39 (.agg #[.int .i64 a0, .int .i64 a1]) (.agg #[.int .i64 b0, .int .i64 b1])) = some (.bool ((a0 == b0) && ((a1 == b1) && true))) := dry_eqlS Try.underlying39 (by kernel_rfl) (eqF_int rfl Try.isAgg3 Try.underlying3 rfl rfl (eqF_int rfl Try.isAgg3 Try.underlying3 rfl rfl eqF_nil))
theorem dwp_eql39 {F : Fr} {h : Hp} {K : Value → Hp → Prop} {a0 b0 a1 b1 : Int} : dwp Try.prog F (binOp .eql 39 (.agg #[.int .i64 a0, .int .i64 a1]) (.agg #[.int .i64 b0, .int .i64 b1])) h K = K (.bool ((a0 == b0) && ((a1 == b1) && true))) h := dry_dwp _ dry_eql39
theorem rval_eql39 {F : Fr} {S : Hp} {a0 b0 a1 b1 : Int} : rval Try.prog F (binOp .eql 39 (.agg #[.int .i64 a0, .int .i64 a1]) (.agg #[.int .i64 b0, .int .i64 b1])) S = some (.bool ((a0 == b0) && ((a1 == b1) && true))) := dry_rval _ dry_eql39
theorem eg39 : Try.prog.eqGuardType Try.prog.depth 39 = false := by kernel_rfl
theorem dry_neq4 {a b : Bool} : dry Try.prog (binOp .neq 4 (.bool a) (.bool b)) = some (.bool (!(a == b))) := dry_neqB Try.underlying4
theorem dwp_neq4 {F : Fr} {h : Hp} {K : Value → Hp → Prop} {a b : Bool} : dwp Try.prog F (binOp .neq 4 (.bool a) (.bool b)) h K = K (.bool (!(a == b))) h := dry_dwp _ dry_neq4
theorem rval_neq4 {F : Fr} {S : Hp} {a b : Bool} : rval Try.prog F (binOp .neq 4 (.bool a) (.bool b)) S = some (.bool (!(a == b))) := dry_rval _ dry_neq4
theorem dry_neq30 {a0 b0 a1 b1 : Int} : dry Try.prog (binOp .neq 30 (.agg #[.int .i64 a0, .int .i64 a1]) (.agg #[.int .i64 b0, .int .i64 b1])) = some (.bool (!((a0 == b0) && ((a1 == b1) && true)))) := dry_neqS Try.underlying30 (by kernel_rfl) (eqF_int rfl Try.isAgg3 Try.underlying3 rfl rfl (eqF_int rfl Try.isAgg3 Try.underlying3 rfl rfl eqF_nil))
theorem dwp_neq30 {F : Fr} {h : Hp} {K : Value → Hp → Prop} {a0 b0 a1 b1 : Int} : dwp Try.prog F (binOp .neq 30 (.agg #[.int .i64 a0, .int .i64 a1]) (.agg #[.int .i64 b0, .int .i64 b1])) h K = K (.bool (!((a0 == b0) && ((a1 == b1) && true)))) h := dry_dwp _ dry_neq30
theorem rval_neq30 {F : Fr} {S : Hp} {a0 b0 a1 b1 : Int} : rval Try.prog F (binOp .neq 30 (.agg #[.int .i64 a0, .int .i64 a1]) (.agg #[.int .i64 b0, .int .i64 b1])) S = some (.bool (!((a0 == b0) && ((a1 == b1) && true)))) := dry_rval _ dry_neq30
theorem dwp_conv5_3 {F : Fr} {h : Hp} {K : Value → Hp → Prop} {k : IntKind} {n : Int} : dwp Try.prog F (convert 5 3 (.int k n)) h K = K (.int .i64 (IntKind.i64.wrap n)) h := dry_dwp _ (dry_convI Try.underlying5 Try.underlying3)
theorem rval_conv5_3 {F : Fr} {S : Hp} {k : IntKind} {n : Int} : rval Try.prog F (convert 5 3 (.int k n)) S = some (.int .i64 (IntKind.i64.wrap n)) := dry_rval _ (dry_convI Try.underlying5 Try.underlying3)
theorem dwp_conv27_3 {F : Fr} {h : Hp} {K : Value → Hp → Prop} {k : IntKind} {n : Int} : dwp Try.prog F (convert 27 3 (.int k n)) h K = K (.int .i64 (IntKind.i64.wrap n)) h := dry_dwp _ (dry_convI Try.underlying27 Try.underlying3)
theorem rval_conv27_3 {F : Fr} {S : Hp} {k : IntKind} {n : Int} : rval Try.prog F (convert 27 3 (.int k n)) S = some (.int .i64 (IntKind.i64.wrap n)) := dry_rval _ (dry_convI Try.underlying27 Try.underlying3)
theorem dwp_conv51_3 {F : Fr} {h : Hp} {K : Value → Hp → Prop} {k : IntKind} {n : Int} : dwp Try.prog F (convert 51 3 (.int k n)) h K = K (.int .i64 (IntKind.i64.wrap n)) h := dry_dwp _ (dry_convI Try.underlying51 Try.underlying3)
theorem rval_conv51_3 {F : Fr} {S : Hp} {k : IntKind} {n : Int} : rval Try.prog F (convert 51 3 (.int k n)) S = some (.int .i64 (IntKind.i64.wrap n)) := dry_rval _ (dry_convI Try.underlying51 Try.underlying3)
theorem mo : Try.prog.follows .mixedOrders = true := by kernel_rfl
end Go.Proofs.Ytdhdfdaclbfkiaa
