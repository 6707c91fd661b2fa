/-
  The types of the program, as the walk over a part of memory asks them. Conditions: none. Printed by facts.py (own program).
-/
import Derived.Test.YtlblahfndlgfmaaProg
import Derived.Test.YtlblahfndlgfmaaS8
namespace Go.Proofs.Ytlblahfndlgfmaa
open Go Go.SL Go.RowKit
set_option linter.unusedVariables false
theorem sz3 {F : Fr} {h : Hp} {K : Nat → Hp → Prop} : dwp Try.prog F (sizeOf 3) h K = K 1 h := dwp_size_of Try.sizeOf3
theorem rs3 {F : Fr} {S : Hp} : rval Try.prog F (sizeOf 3) S = some 1 := rval_size Try.sizeOf3
theorem ag3 {F : Fr} {h : Hp} {K : Bool → Hp → Prop} : dwp Try.prog F (isAgg 3) h K = K false h := dwp_agg_of Try.isAgg3
theorem ra3 {F : Fr} {S : Hp} : rval Try.prog F (isAgg 3) S = some false := rval_agg Try.isAgg3
theorem ze3 {F : Fr} {h : Hp} {K : Value → Hp → Prop} : dwp Try.prog F (zeroValue 3) h K = K (Go.Value.int Go.IntKind.i64 0) h := dwp_zero_of Try.zeroValue3
theorem rz3 {F : Fr} {S : Hp} : rval Try.prog F (zeroValue 3) S = some (Go.Value.int Go.IntKind.i64 0) := rval_zero Try.zeroValue3
theorem ra5 {F : Fr} {S : Hp} : rval Try.prog F (isAgg 5) S = some false := rval_agg Try.isAgg5
theorem rx22 {F : Fr} {S : Hp} {a : Addr} {k : IntKind} {i : Int} (h1 : 0 ≤ i) (h2 : i < ((4 : Nat) : Int)) : rval Try.prog F (Instr.indexAt 22 (.pointer (some a)) (.int k i)) S = some (.pointer (some (a.add (i.toNat * 1)))) := rval_ixA Try.underlying22 Try.sizeOf5 h1 h2
theorem sz22 {F : Fr} {h : Hp} {K : Nat → Hp → Prop} : dwp Try.prog F (sizeOf 22) h K = K 4 h := dwp_size_of Try.sizeOf22
theorem ag22 {F : Fr} {h : Hp} {K : Bool → Hp → Prop} : dwp Try.prog F (isAgg 22) h K = K true h := dwp_agg_of Try.isAgg22
theorem un26 {F : Fr} {h : Hp} {K : TypeDesc → Hp → Prop} : dwp Try.prog F (underlying 26) h K = K (Go.TypeDesc.struct #[{ name := "Low", type := 3, offset := 0, embedded := false, tag := "", pkgPath := "", byteOffset := 0 }, { name := "High", type := 3, offset := 1, embedded := false, tag := "", pkgPath := "", byteOffset := 8 }]) h := by rw [dwp_underlying, Try.underlying26]; rfl
theorem ru26 {F : Fr} {S : Hp} : rval Try.prog F (underlying 26) S = some (Go.TypeDesc.struct #[{ name := "Low", type := 3, offset := 0, embedded := false, tag := "", pkgPath := "", byteOffset := 0 }, { name := "High", type := 3, offset := 1, embedded := false, tag := "", pkgPath := "", byteOffset := 8 }]) := rval_un Try.underlying26
theorem sz26 {F : Fr} {h : Hp} {K : Nat → Hp → Prop} : dwp Try.prog F (sizeOf 26) h K = K 2 h := dwp_size_of Try.sizeOf26
theorem rs26 {F : Fr} {S : Hp} : rval Try.prog F (sizeOf 26) S = some 2 := rval_size Try.sizeOf26
theorem ag26 {F : Fr} {h : Hp} {K : Bool → Hp → Prop} : dwp Try.prog F (isAgg 26) h K = K true h := dwp_agg_of Try.isAgg26
theorem ra26 {F : Fr} {S : Hp} : rval Try.prog F (isAgg 26) S = some true := rval_agg Try.isAgg26
theorem ze26 {F : Fr} {h : Hp} {K : Value → Hp → Prop} : dwp Try.prog F (zeroValue 26) h K = K (Go.Value.agg #[Go.Value.int Go.IntKind.i64 0, Go.Value.int Go.IntKind.i64 0]) h := dwp_zero_of Try.zeroValue26
theorem un28 {F : Fr} {h : Hp} {K : TypeDesc → Hp → Prop} : dwp Try.prog F (underlying 28) h K = K (Go.TypeDesc.struct #[{ name := "Lead", type := 3, offset := 0, embedded := false, tag := "", pkgPath := "", byteOffset := 0 }, { name := "Thread", type := 3, offset := 1, embedded := false, tag := "", pkgPath := "", byteOffset := 8 }, { name := "Head", type := 3, offset := 2, embedded := false, tag := "", pkgPath := "", byteOffset := 16 }, { name := "OnThread", type := 26, offset := 3, embedded := false, tag := "", pkgPath := "", byteOffset := 24 }, { name := "OnHead", type := 26, offset := 5, embedded := false, tag := "", pkgPath := "", byteOffset := 40 }, { name := "Stiff", type := 26, offset := 7, embedded := false, tag := "", pkgPath := "", byteOffset := 56 }, { name := "Spring", type := 26, offset := 9, embedded := false, tag := "", pkgPath := "", byteOffset := 72 }, { name := "Yield", type := 26, offset := 11, embedded := false, tag := "", pkgPath := "", byteOffset := 88 }]) h := by rw [dwp_underlying, Try.underlying28]; rfl
theorem ru28 {F : Fr} {S : Hp} : rval Try.prog F (underlying 28) S = some (Go.TypeDesc.struct #[{ name := "Lead", type := 3, offset := 0, embedded := false, tag := "", pkgPath := "", byteOffset := 0 }, { name := "Thread", type := 3, offset := 1, embedded := false, tag := "", pkgPath := "", byteOffset := 8 }, { name := "Head", type := 3, offset := 2, embedded := false, tag := "", pkgPath := "", byteOffset := 16 }, { name := "OnThread", type := 26, offset := 3, embedded := false, tag := "", pkgPath := "", byteOffset := 24 }, { name := "OnHead", type := 26, offset := 5, embedded := false, tag := "", pkgPath := "", byteOffset := 40 }, { name := "Stiff", type := 26, offset := 7, embedded := false, tag := "", pkgPath := "", byteOffset := 56 }, { name := "Spring", type := 26, offset := 9, embedded := false, tag := "", pkgPath := "", byteOffset := 72 }, { name := "Yield", type := 26, offset := 11, embedded := false, tag := "", pkgPath := "", byteOffset := 88 }]) := rval_un Try.underlying28
theorem sz28 {F : Fr} {h : Hp} {K : Nat → Hp → Prop} : dwp Try.prog F (sizeOf 28) h K = K 13 h := dwp_size_of Try.sizeOf28
theorem rs28 {F : Fr} {S : Hp} : rval Try.prog F (sizeOf 28) S = some 13 := rval_size Try.sizeOf28
theorem ag28 {F : Fr} {h : Hp} {K : Bool → Hp → Prop} : dwp Try.prog F (isAgg 28) h K = K true h := dwp_agg_of Try.isAgg28
theorem ra28 {F : Fr} {S : Hp} : rval Try.prog F (isAgg 28) S = some true := rval_agg Try.isAgg28
theorem ze28 {F : Fr} {h : Hp} {K : Value → Hp → Prop} : dwp Try.prog F (zeroValue 28) h K = K (Go.Value.agg #[Go.Value.int Go.IntKind.i64 0, Go.Value.int Go.IntKind.i64 0, Go.Value.int Go.IntKind.i64 0, Go.Value.int Go.IntKind.i64 0, Go.Value.int Go.IntKind.i64 0, Go.Value.int Go.IntKind.i64 0, Go.Value.int Go.IntKind.i64 0, Go.Value.int Go.IntKind.i64 0, Go.Value.int Go.IntKind.i64 0, Go.Value.int Go.IntKind.i64 0, Go.Value.int Go.IntKind.i64 0, Go.Value.int Go.IntKind.i64 0, Go.Value.int Go.IntKind.i64 0]) h := dwp_zero_of Try.zeroValue28
theorem un30 {F : Fr} {h : Hp} {K : TypeDesc → Hp → Prop} : dwp Try.prog F (underlying 30) h K = K (Go.TypeDesc.slice 37) h := by rw [dwp_underlying, Try.underlying30]; rfl
theorem ix30 {F : Fr} {h : Hp} {a : Addr} {n c : Nat} {k : IntKind} {i : Int} {K : Value → Hp → Prop} (h1 : 0 ≤ i) (h2 : i < (n : Int)) : dwp Try.prog F (Instr.indexAt 30 (.slice (some a) n c) (.int k i)) h K = K (.pointer (some (a.add (i.toNat * 7)))) h := dwp_ixS Try.underlying30 Try.sizeOf37 h1 h2
theorem un31 {F : Fr} {h : Hp} {K : TypeDesc → Hp → Prop} : dwp Try.prog F (underlying 31) h K = K (Go.TypeDesc.slice 3) h := by rw [dwp_underlying, Try.underlying31]; rfl
theorem ru31 {F : Fr} {S : Hp} : rval Try.prog F (underlying 31) S = some (Go.TypeDesc.slice 3) := rval_un Try.underlying31
theorem ix31 {F : Fr} {h : Hp} {a : Addr} {n c : Nat} {k : IntKind} {i : Int} {K : Value → Hp → Prop} (h1 : 0 ≤ i) (h2 : i < (n : Int)) : dwp Try.prog F (Instr.indexAt 31 (.slice (some a) n c) (.int k i)) h K = K (.pointer (some (a.add (i.toNat * 1)))) h := dwp_ixS Try.underlying31 Try.sizeOf3 h1 h2
theorem rx31 {F : Fr} {S : Hp} {a : Addr} {n c : Nat} {k : IntKind} {i : Int} (h1 : 0 ≤ i) (h2 : i < (n : Int)) : rval Try.prog F (Instr.indexAt 31 (.slice (some a) n c) (.int k i)) S = some (.pointer (some (a.add (i.toNat * 1)))) := rval_ixS Try.underlying31 Try.sizeOf3 h1 h2
theorem sz31 {F : Fr} {h : Hp} {K : Nat → Hp → Prop} : dwp Try.prog F (sizeOf 31) h K = K 1 h := dwp_size_of Try.sizeOf31
theorem rs31 {F : Fr} {S : Hp} : rval Try.prog F (sizeOf 31) S = some 1 := rval_size Try.sizeOf31
theorem ag31 {F : Fr} {h : Hp} {K : Bool → Hp → Prop} : dwp Try.prog F (isAgg 31) h K = K false h := dwp_agg_of Try.isAgg31
theorem ra31 {F : Fr} {S : Hp} : rval Try.prog F (isAgg 31) S = some false := rval_agg Try.isAgg31
theorem un33 {F : Fr} {h : Hp} {K : TypeDesc → Hp → Prop} : dwp Try.prog F (underlying 33) h K = K (Go.TypeDesc.struct #[{ name := "Bolts", type := 3, offset := 0, embedded := false, tag := "", pkgPath := "", byteOffset := 0 }, { name := "Kind", type := 28, offset := 1, embedded := false, tag := "", pkgPath := "", byteOffset := 8 }, { name := "Share", type := 31, offset := 14, embedded := false, tag := "", pkgPath := "", byteOffset := 112 }, { name := "Need", type := 3, offset := 15, embedded := false, tag := "", pkgPath := "", byteOffset := 136 }]) h := by rw [dwp_underlying, Try.underlying33]; rfl
theorem ru33 {F : Fr} {S : Hp} : rval Try.prog F (underlying 33) S = some (Go.TypeDesc.struct #[{ name := "Bolts", type := 3, offset := 0, embedded := false, tag := "", pkgPath := "", byteOffset := 0 }, { name := "Kind", type := 28, offset := 1, embedded := false, tag := "", pkgPath := "", byteOffset := 8 }, { name := "Share", type := 31, offset := 14, embedded := false, tag := "", pkgPath := "", byteOffset := 112 }, { name := "Need", type := 3, offset := 15, embedded := false, tag := "", pkgPath := "", byteOffset := 136 }]) := rval_un Try.underlying33
theorem sz33 {F : Fr} {h : Hp} {K : Nat → Hp → Prop} : dwp Try.prog F (sizeOf 33) h K = K 16 h := dwp_size_of Try.sizeOf33
theorem rs33 {F : Fr} {S : Hp} : rval Try.prog F (sizeOf 33) S = some 16 := rval_size Try.sizeOf33
theorem ag33 {F : Fr} {h : Hp} {K : Bool → Hp → Prop} : dwp Try.prog F (isAgg 33) h K = K true h := dwp_agg_of Try.isAgg33
theorem ra33 {F : Fr} {S : Hp} : rval Try.prog F (isAgg 33) S = some true := rval_agg Try.isAgg33
theorem ze33 {F : Fr} {h : Hp} {K : Value → Hp → Prop} : dwp Try.prog F (zeroValue 33) h K = K (Go.Value.agg #[Go.Value.int Go.IntKind.i64 0, Go.Value.int Go.IntKind.i64 0, Go.Value.int Go.IntKind.i64 0, Go.Value.int Go.IntKind.i64 0, Go.Value.int Go.IntKind.i64 0, Go.Value.int Go.IntKind.i64 0, Go.Value.int Go.IntKind.i64 0, Go.Value.int Go.IntKind.i64 0, Go.Value.int Go.IntKind.i64 0, Go.Value.int Go.IntKind.i64 0, Go.Value.int Go.IntKind.i64 0, Go.Value.int Go.IntKind.i64 0, Go.Value.int Go.IntKind.i64 0, Go.Value.int Go.IntKind.i64 0, Go.Value.slice none 0 0, Go.Value.int Go.IntKind.i64 0]) h := dwp_zero_of Try.zeroValue33
theorem sz35 {F : Fr} {h : Hp} {K : Nat → Hp → Prop} : dwp Try.prog F (sizeOf 35) h K = K 1 h := dwp_size_of Try.sizeOf35
theorem ag35 {F : Fr} {h : Hp} {K : Bool → Hp → Prop} : dwp Try.prog F (isAgg 35) h K = K false h := dwp_agg_of Try.isAgg35
theorem un37 {F : Fr} {h : Hp} {K : TypeDesc → Hp → Prop} : dwp Try.prog F (underlying 37) h K = K (Go.TypeDesc.struct #[{ name := "Kind", type := 35, offset := 0, embedded := false, tag := "", pkgPath := "", byteOffset := 0 }, { name := "Torque", type := 26, offset := 1, embedded := false, tag := "", pkgPath := "", byteOffset := 8 }, { name := "Angle", type := 26, offset := 3, embedded := false, tag := "", pkgPath := "", byteOffset := 24 }, { name := "Stretch", type := 26, offset := 5, embedded := false, tag := "", pkgPath := "", byteOffset := 40 }]) h := by rw [dwp_underlying, Try.underlying37]; rfl
theorem ru37 {F : Fr} {S : Hp} : rval Try.prog F (underlying 37) S = some (Go.TypeDesc.struct #[{ name := "Kind", type := 35, offset := 0, embedded := false, tag := "", pkgPath := "", byteOffset := 0 }, { name := "Torque", type := 26, offset := 1, embedded := false, tag := "", pkgPath := "", byteOffset := 8 }, { name := "Angle", type := 26, offset := 3, embedded := false, tag := "", pkgPath := "", byteOffset := 24 }, { name := "Stretch", type := 26, offset := 5, embedded := false, tag := "", pkgPath := "", byteOffset := 40 }]) := rval_un Try.underlying37
theorem sz37 {F : Fr} {h : Hp} {K : Nat → Hp → Prop} : dwp Try.prog F (sizeOf 37) h K = K 7 h := dwp_size_of Try.sizeOf37
theorem rs37 {F : Fr} {S : Hp} : rval Try.prog F (sizeOf 37) S = some 7 := rval_size Try.sizeOf37
theorem ag37 {F : Fr} {h : Hp} {K : Bool → Hp → Prop} : dwp Try.prog F (isAgg 37) h K = K true h := dwp_agg_of Try.isAgg37
theorem ra37 {F : Fr} {S : Hp} : rval Try.prog F (isAgg 37) S = some true := rval_agg Try.isAgg37
theorem ze37 {F : Fr} {h : Hp} {K : Value → Hp → Prop} : dwp Try.prog F (zeroValue 37) h K = K (Go.Value.agg #[Go.Value.int Go.IntKind.i64 0, Go.Value.int Go.IntKind.i64 0, Go.Value.int Go.IntKind.i64 0, Go.Value.int Go.IntKind.i64 0, Go.Value.int Go.IntKind.i64 0, Go.Value.int Go.IntKind.i64 0, Go.Value.int Go.IntKind.i64 0]) h := dwp_zero_of Try.zeroValue37
theorem un46 {F : Fr} {h : Hp} {K : TypeDesc → Hp → Prop} : dwp Try.prog F (underlying 46) h K = K (Go.TypeDesc.slice 70) h := by rw [dwp_underlying, Try.underlying46]; rfl
theorem ix46 {F : Fr} {h : Hp} {a : Addr} {n c : Nat} {k : IntKind} {i : Int} {K : Value → Hp → Prop} (h1 : 0 ≤ i) (h2 : i < (n : Int)) : dwp Try.prog F (Instr.indexAt 46 (.slice (some a) n c) (.int k i)) h K = K (.pointer (some (a.add (i.toNat * 2)))) h := dwp_ixS Try.underlying46 Try.sizeOf70 h1 h2
theorem un57 {F : Fr} {h : Hp} {K : TypeDesc → Hp → Prop} : dwp Try.prog F (underlying 57) h K = K (Go.TypeDesc.struct #[{ name := "BoltKind", type := 28, offset := 0, embedded := true, tag := "", pkgPath := "", byteOffset := 0 }]) h := by rw [dwp_underlying, Try.underlying57]; rfl
theorem ru57 {F : Fr} {S : Hp} : rval Try.prog F (underlying 57) S = some (Go.TypeDesc.struct #[{ name := "BoltKind", type := 28, offset := 0, embedded := true, tag := "", pkgPath := "", byteOffset := 0 }]) := rval_un Try.underlying57
theorem sz57 {F : Fr} {h : Hp} {K : Nat → Hp → Prop} : dwp Try.prog F (sizeOf 57) h K = K 13 h := dwp_size_of Try.sizeOf57
theorem rs57 {F : Fr} {S : Hp} : rval Try.prog F (sizeOf 57) S = some 13 := rval_size Try.sizeOf57
theorem ag57 {F : Fr} {h : Hp} {K : Bool → Hp → Prop} : dwp Try.prog F (isAgg 57) h K = K true h := dwp_agg_of Try.isAgg57
theorem ra57 {F : Fr} {S : Hp} : rval Try.prog F (isAgg 57) S = some true := rval_agg Try.isAgg57
theorem ze57 {F : Fr} {h : Hp} {K : Value → Hp → Prop} : dwp Try.prog F (zeroValue 57) h K = K (Go.Value.agg #[Go.Value.int Go.IntKind.i64 0, Go.Value.int Go.IntKind.i64 0, Go.Value.int Go.IntKind.i64 0, Go.Value.int Go.IntKind.i64 0, Go.Value.int Go.IntKind.i64 0, Go.Value.int Go.IntKind.i64 0, Go.Value.int Go.IntKind.i64 0, Go.Value.int Go.IntKind.i64 0, Go.Value.int Go.IntKind.i64 0, Go.Value.int Go.IntKind.i64 0, Go.Value.int Go.IntKind.i64 0, Go.Value.int Go.IntKind.i64 0, Go.Value.int Go.IntKind.i64 0]) h := dwp_zero_of Try.zeroValue57
theorem ag66 {F : Fr} {h : Hp} {K : Bool → Hp → Prop} : dwp Try.prog F (isAgg 66) h K = K false h := dwp_agg_of Try.isAgg66
theorem ra66 {F : Fr} {S : Hp} : rval Try.prog F (isAgg 66) S = some false := rval_agg Try.isAgg66
theorem un70 {F : Fr} {h : Hp} {K : TypeDesc → Hp → Prop} : dwp Try.prog F (underlying 70) h K = K (Go.TypeDesc.struct #[{ name := "Bolt", type := 3, offset := 0, embedded := false, tag := "", pkgPath := "", byteOffset := 0 }, { name := "Torque", type := 3, offset := 1, embedded := false, tag := "", pkgPath := "", byteOffset := 8 }]) h := by rw [dwp_underlying, Try.underlying70]; rfl
theorem sz70 {F : Fr} {h : Hp} {K : Nat → Hp → Prop} : dwp Try.prog F (sizeOf 70) h K = K 2 h := dwp_size_of Try.sizeOf70
theorem ag70 {F : Fr} {h : Hp} {K : Bool → Hp → Prop} : dwp Try.prog F (isAgg 70) h K = K true h := dwp_agg_of Try.isAgg70
theorem ze70 {F : Fr} {h : Hp} {K : Value → Hp → Prop} : dwp Try.prog F (zeroValue 70) h K = K (Go.Value.agg #[Go.Value.int Go.IntKind.i64 0, Go.Value.int Go.IntKind.i64 0]) h := dwp_zero_of Try.zeroValue70
theorem ru72 {F : Fr} {S : Hp} : rval Try.prog F (underlying 72) S = some (Go.TypeDesc.slice 26) := rval_un Try.underlying72
theorem rx72 {F : Fr} {S : Hp} {a : Addr} {n c : Nat} {k : IntKind} {i : Int} (h1 : 0 ≤ i) (h2 : i < (n : Int)) : rval Try.prog F (Instr.indexAt 72 (.slice (some a) n c) (.int k i)) S = some (.pointer (some (a.add (i.toNat * 2)))) := rval_ixS Try.underlying72 Try.sizeOf26 h1 h2
theorem sz72 {F : Fr} {h : Hp} {K : Nat → Hp → Prop} : dwp Try.prog F (sizeOf 72) h K = K 1 h := dwp_size_of Try.sizeOf72
theorem rs72 {F : Fr} {S : Hp} : rval Try.prog F (sizeOf 72) S = some 1 := rval_size Try.sizeOf72
theorem ra72 {F : Fr} {S : Hp} : rval Try.prog F (isAgg 72) S = some false := rval_agg Try.isAgg72
theorem un74 {F : Fr} {h : Hp} {K : TypeDesc → Hp → Prop} : dwp Try.prog F (underlying 74) h K = K (Go.TypeDesc.struct #[{ name := "Forces", type := 72, offset := 0, embedded := false, tag := "", pkgPath := "", byteOffset := 0 }, { name := "Most", type := 3, offset := 1, embedded := false, tag := "", pkgPath := "", byteOffset := 24 }, { name := "Lost", type := 72, offset := 2, embedded := false, tag := "", pkgPath := "", byteOffset := 32 }]) h := by rw [dwp_underlying, Try.underlying74]; rfl
theorem ru74 {F : Fr} {S : Hp} : rval Try.prog F (underlying 74) S = some (Go.TypeDesc.struct #[{ name := "Forces", type := 72, offset := 0, embedded := false, tag := "", pkgPath := "", byteOffset := 0 }, { name := "Most", type := 3, offset := 1, embedded := false, tag := "", pkgPath := "", byteOffset := 24 }, { name := "Lost", type := 72, offset := 2, embedded := false, tag := "", pkgPath := "", byteOffset := 32 }]) := rval_un Try.underlying74
theorem sz74 {F : Fr} {h : Hp} {K : Nat → Hp → Prop} : dwp Try.prog F (sizeOf 74) h K = K 3 h := dwp_size_of Try.sizeOf74
theorem ag74 {F : Fr} {h : Hp} {K : Bool → Hp → Prop} : dwp Try.prog F (isAgg 74) h K = K true h := dwp_agg_of Try.isAgg74
theorem ze74 {F : Fr} {h : Hp} {K : Value → Hp → Prop} : dwp Try.prog F (zeroValue 74) h K = K (Go.Value.agg #[Go.Value.slice none 0 0, Go.Value.int Go.IntKind.i64 0, Go.Value.slice none 0 0]) h := dwp_zero_of Try.zeroValue74
theorem un93 {F : Fr} {h : Hp} {K : TypeDesc → Hp → Prop} : dwp Try.prog F (underlying 93) h K = K (Go.TypeDesc.slice 26) h := by rw [dwp_underlying, Try.underlying93]; rfl
theorem ix93 {F : Fr} {h : Hp} {a : Addr} {n c : Nat} {k : IntKind} {i : Int} {K : Value → Hp → Prop} (h1 : 0 ≤ i) (h2 : i < (n : Int)) : dwp Try.prog F (Instr.indexAt 93 (.slice (some a) n c) (.int k i)) h K = K (.pointer (some (a.add (i.toNat * 2)))) h := dwp_ixS Try.underlying93 Try.sizeOf26 h1 h2
theorem rx93 {F : Fr} {S : Hp} {a : Addr} {n c : Nat} {k : IntKind} {i : Int} (h1 : 0 ≤ i) (h2 : i < (n : Int)) : rval Try.prog F (Instr.indexAt 93 (.slice (some a) n c) (.int k i)) S = some (.pointer (some (a.add (i.toNat * 2)))) := rval_ixS Try.underlying93 Try.sizeOf26 h1 h2
theorem sz93 {F : Fr} {h : Hp} {K : Nat → Hp → Prop} : dwp Try.prog F (sizeOf 93) h K = K 1 h := dwp_size_of Try.sizeOf93
theorem rs93 {F : Fr} {S : Hp} : rval Try.prog F (sizeOf 93) S = some 1 := rval_size Try.sizeOf93
theorem ag93 {F : Fr} {h : Hp} {K : Bool → Hp → Prop} : dwp Try.prog F (isAgg 93) h K = K false h := dwp_agg_of Try.isAgg93
theorem ra93 {F : Fr} {S : Hp} : rval Try.prog F (isAgg 93) S = some false := rval_agg Try.isAgg93
theorem un95 {F : Fr} {h : Hp} {K : TypeDesc → Hp → Prop} : dwp Try.prog F (underlying 95) h K = K (Go.TypeDesc.struct #[{ name := "FlangeRules", type := 33, offset := 0, embedded := true, tag := "", pkgPath := "", byteOffset := 0 }, { name := "forces", type := 93, offset := 16, embedded := false, tag := "", pkgPath := "acme/flange", byteOffset := 144 }, { name := "lost", type := 93, offset := 17, embedded := false, tag := "", pkgPath := "acme/flange", byteOffset := 168 }, { name := "most", type := 3, offset := 18, embedded := false, tag := "", pkgPath := "acme/flange", byteOffset := 192 }]) h := by rw [dwp_underlying, Try.underlying95]; rfl
theorem ru95 {F : Fr} {S : Hp} : rval Try.prog F (underlying 95) S = some (Go.TypeDesc.struct #[{ name := "FlangeRules", type := 33, offset := 0, embedded := true, tag := "", pkgPath := "", byteOffset := 0 }, { name := "forces", type := 93, offset := 16, embedded := false, tag := "", pkgPath := "acme/flange", byteOffset := 144 }, { name := "lost", type := 93, offset := 17, embedded := false, tag := "", pkgPath := "acme/flange", byteOffset := 168 }, { name := "most", type := 3, offset := 18, embedded := false, tag := "", pkgPath := "acme/flange", byteOffset := 192 }]) := rval_un Try.underlying95
theorem ze95 {F : Fr} {h : Hp} {K : Value → Hp → Prop} : dwp Try.prog F (zeroValue 95) h K = K (Go.Value.agg #[Go.Value.int Go.IntKind.i64 0, Go.Value.int Go.IntKind.i64 0, Go.Value.int Go.IntKind.i64 0, Go.Value.int Go.IntKind.i64 0, Go.Value.int Go.IntKind.i64 0, Go.Value.int Go.IntKind.i64 0, Go.Value.int Go.IntKind.i64 0, Go.Value.int Go.IntKind.i64 0, Go.Value.int Go.IntKind.i64 0, Go.Value.int Go.IntKind.i64 0, Go.Value.int Go.IntKind.i64 0, Go.Value.int Go.IntKind.i64 0, Go.Value.int Go.IntKind.i64 0, Go.Value.int Go.IntKind.i64 0, Go.Value.slice none 0 0, Go.Value.int Go.IntKind.i64 0, Go.Value.slice none 0 0, Go.Value.slice none 0 0, Go.Value.int Go.IntKind.i64 0]) h := dwp_zero_of Try.zeroValue95
theorem un107 {F : Fr} {h : Hp} {K : TypeDesc → Hp → Prop} : dwp Try.prog F (underlying 107) h K = K (Go.TypeDesc.array 2 26) h := by rw [dwp_underlying, Try.underlying107]; rfl
theorem ze107 {F : Fr} {h : Hp} {K : Value → Hp → Prop} : dwp Try.prog F (zeroValue 107) h K = K (Go.Value.agg #[Go.Value.int Go.IntKind.i64 0, Go.Value.int Go.IntKind.i64 0, Go.Value.int Go.IntKind.i64 0, Go.Value.int Go.IntKind.i64 0]) h := dwp_zero_of Try.zeroValue107
theorem en5 {F : Fr} {h : Hp} {xs : Array Value} {K : Next → Hp → Prop} : dwp Try.prog F (callFunc 5 xs) h K = K (.enter 5 xs) h := dwp_callFunc (by unfold entB; rw [Try.func5]; rfl)
theorem en6 {F : Fr} {h : Hp} {xs : Array Value} {K : Next → Hp → Prop} : dwp Try.prog F (callFunc 6 xs) h K = K (.enter 6 xs) h := dwp_callFunc (by unfold entB; rw [Try.func6]; rfl)
theorem en7 {F : Fr} {h : Hp} {xs : Array Value} {K : Next → Hp → Prop} : dwp Try.prog F (callFunc 7 xs) h K = K (.enter 7 xs) h := dwp_callFunc (by unfold entB; rw [Try.func7]; rfl)
theorem en9 {F : Fr} {h : Hp} {xs : Array Value} {K : Next → Hp → Prop} : dwp Try.prog F (callFunc 9 xs) h K = K (.enter 9 xs) h := dwp_callFunc (by unfold entB; rw [Try.func9]; rfl)
theorem re9 {F : Fr} {S : Hp} {xs : Array Value} : rval Try.prog F (callFunc 9 xs) S = some (.enter 9 xs) := rval_callFunc (by unfold entB; rw [Try.func9]; rfl)
theorem ni9 : Try.prog.inits.idxOf? 9 = none := by kernel_rfl
theorem re10 {F : Fr} {S : Hp} {xs : Array Value} : rval Try.prog F (callFunc 10 xs) S = some (.enter 10 xs) := rval_callFunc (by unfold entB; rw [Try.func10]; rfl)
theorem re11 {F : Fr} {S : Hp} {xs : Array Value} : rval Try.prog F (callFunc 11 xs) S = some (.enter 11 xs) := rval_callFunc (by unfold entB; rw [Try.func11]; rfl)
theorem en12 {F : Fr} {h : Hp} {xs : Array Value} {K : Next → Hp → Prop} : dwp Try.prog F (callFunc 12 xs) h K = K (.enter 12 xs) h := dwp_callFunc (by unfold entB; rw [Try.func12]; rfl)
theorem en13 {F : Fr} {h : Hp} {xs : Array Value} {K : Next → Hp → Prop} : dwp Try.prog F (callFunc 13 xs) h K = K (.enter 13 xs) h := dwp_callFunc (by unfold entB; rw [Try.func13]; rfl)
theorem en14 {F : Fr} {h : Hp} {xs : Array Value} {K : Next → Hp → Prop} : dwp Try.prog F (callFunc 14 xs) h K = K (.enter 14 xs) h := dwp_callFunc (by unfold entB; rw [Try.func14]; rfl)
theorem re14 {F : Fr} {S : Hp} {xs : Array Value} : rval Try.prog F (callFunc 14 xs) S = some (.enter 14 xs) := rval_callFunc (by unfold entB; rw [Try.func14]; rfl)
theorem ni14 : Try.prog.inits.idxOf? 14 = none := by kernel_rfl
theorem re15 {F : Fr} {S : Hp} {xs : Array Value} : rval Try.prog F (callFunc 15 xs) S = some (.enter 15 xs) := rval_callFunc (by unfold entB; rw [Try.func15]; rfl)
theorem ni15 : Try.prog.inits.idxOf? 15 = none := by kernel_rfl
theorem re16 {F : Fr} {S : Hp} {xs : Array Value} : rval Try.prog F (callFunc 16 xs) S = some (.enter 16 xs) := rval_callFunc (by unfold entB; rw [Try.func16]; rfl)
theorem en17 {F : Fr} {h : Hp} {xs : Array Value} {K : Next → Hp → Prop} : dwp Try.prog F (callFunc 17 xs) h K = K (.enter 17 xs) h := dwp_callFunc (by unfold entB; rw [Try.func17]; rfl)
theorem en18 {F : Fr} {h : Hp} {xs : Array Value} {K : Next → Hp → Prop} : dwp Try.prog F (callFunc 18 xs) h K = K (.enter 18 xs) h := dwp_callFunc (by unfold entB; rw [Try.func18]; rfl)
theorem en19 {F : Fr} {h : Hp} {xs : Array Value} {K : Next → Hp → Prop} : dwp Try.prog F (callFunc 19 xs) h K = K (.enter 19 xs) h := dwp_callFunc (by unfold entB; rw [Try.func19]; rfl)
theorem en20 {F : Fr} {h : Hp} {xs : Array Value} {K : Next → Hp → Prop} : dwp Try.prog F (callFunc 20 xs) h K = K (.enter 20 xs) h := dwp_callFunc (by unfold entB; rw [Try.func20]; rfl)
theorem en24 {F : Fr} {h : Hp} {xs : Array Value} {K : Next → Hp → Prop} : dwp Try.prog F (callFunc 24 xs) h K = K (.enter 24 xs) h := dwp_callFunc (by unfold entB; rw [Try.func24]; rfl)
theorem en25 {F : Fr} {h : Hp} {xs : Array Value} {K : Next → Hp → Prop} : dwp Try.prog F (callFunc 25 xs) h K = K (.enter 25 xs) h := dwp_callFunc (by unfold entB; rw [Try.func25]; rfl)
theorem en26 {F : Fr} {h : Hp} {xs : Array Value} {K : Next → Hp → Prop} : dwp Try.prog F (callFunc 26 xs) h K = K (.enter 26 xs) h := dwp_callFunc (by unfold entB; rw [Try.func26]; rfl)
theorem en27 {F : Fr} {h : Hp} {xs : Array Value} {K : Next → Hp → Prop} : dwp Try.prog F (callFunc 27 xs) h K = K (.enter 27 xs) h := dwp_callFunc (by unfold entB; rw [Try.func27]; rfl)
theorem en28 {F : Fr} {h : Hp} {xs : Array Value} {K : Next → Hp → Prop} : dwp Try.prog F (callFunc 28 xs) h K = K (.enter 28 xs) h := dwp_callFunc (by unfold entB; rw [Try.func28]; rfl)
theorem en29 {F : Fr} {h : Hp} {xs : Array Value} {K : Next → Hp → Prop} : dwp Try.prog F (callFunc 29 xs) h K = K (.enter 29 xs) h := dwp_callFunc (by unfold entB; rw [Try.func29]; rfl)
theorem re30 {F : Fr} {S : Hp} {xs : Array Value} : rval Try.prog F (callFunc 30 xs) S = some (.enter 30 xs) := rval_callFunc (by unfold entB; rw [Try.func30]; rfl)
theorem ni30 : Try.prog.inits.idxOf? 30 = none := by kernel_rfl
theorem re31 {F : Fr} {S : Hp} {xs : Array Value} : rval Try.prog F (callFunc 31 xs) S = some (.enter 31 xs) := rval_callFunc (by unfold entB; rw [Try.func31]; rfl)
theorem ni31 : Try.prog.inits.idxOf? 31 = none := by kernel_rfl
theorem re32 {F : Fr} {S : Hp} {xs : Array Value} : rval Try.prog F (callFunc 32 xs) S = some (.enter 32 xs) := rval_callFunc (by unfold entB; rw [Try.func32]; rfl)
theorem ni32 : Try.prog.inits.idxOf? 32 = none := by kernel_rfl
theorem en33 {F : Fr} {h : Hp} {xs : Array Value} {K : Next → Hp → Prop} : dwp Try.prog F (callFunc 33 xs) h K = K (.enter 33 xs) h := dwp_callFunc (by unfold entB; rw [Try.func33]; rfl)
theorem en34 {F : Fr} {h : Hp} {xs : Array Value} {K : Next → Hp → Prop} : dwp Try.prog F (callFunc 34 xs) h K = K (.enter 34 xs) h := dwp_callFunc (by unfold entB; rw [Try.func34]; rfl)
theorem en35 {F : Fr} {h : Hp} {xs : Array Value} {K : Next → Hp → Prop} : dwp Try.prog F (callFunc 35 xs) h K = K (.enter 35 xs) h := dwp_callFunc (by unfold entB; rw [Try.func35]; rfl)
theorem en36 {F : Fr} {h : Hp} {xs : Array Value} {K : Next → Hp → Prop} : dwp Try.prog F (callFunc 36 xs) h K = K (.enter 36 xs) h := dwp_callFunc (by unfold entB; rw [Try.func36]; rfl)
theorem en37 {F : Fr} {h : Hp} {xs : Array Value} {K : Next → Hp → Prop} : dwp Try.prog F (callFunc 37 xs) h K = K (.enter 37 xs) h := dwp_callFunc (by unfold entB; rw [Try.func37]; rfl)
theorem en38 {F : Fr} {h : Hp} {xs : Array Value} {K : Next → Hp → Prop} : dwp Try.prog F (callFunc 38 xs) h K = K (.enter 38 xs) h := dwp_callFunc (by unfold entB; rw [Try.func38]; rfl)
theorem en39 {F : Fr} {h : Hp} {xs : Array Value} {K : Next → Hp → Prop} : dwp Try.prog F (callFunc 39 xs) h K = K (.enter 39 xs) h := dwp_callFunc (by unfold entB; rw [Try.func39]; rfl)
theorem en40 {F : Fr} {h : Hp} {xs : Array Value} {K : Next → Hp → Prop} : dwp Try.prog F (callFunc 40 xs) h K = K (.enter 40 xs) h := dwp_callFunc (by unfold entB; rw [Try.func40]; rfl)
theorem en41 {F : Fr} {h : Hp} {xs : Array Value} {K : Next → Hp → Prop} : dwp Try.prog F (callFunc 41 xs) h K = K (.enter 41 xs) h := dwp_callFunc (by unfold entB; rw [Try.func41]; rfl)
theorem en42 {F : Fr} {h : Hp} {xs : Array Value} {K : Next → Hp → Prop} : dwp Try.prog F (callFunc 42 xs) h K = K (.enter 42 xs) h := dwp_callFunc (by unfold entB; rw [Try.func42]; rfl)
theorem re43 {F : Fr} {S : Hp} {xs : Array Value} : rval Try.prog F (callFunc 43 xs) S = some (.enter 43 xs) := rval_callFunc (by unfold entB; rw [Try.func43]; rfl)
theorem ni43 : Try.prog.inits.idxOf? 43 = none := by kernel_rfl
theorem re44 {F : Fr} {S : Hp} {xs : Array Value} : rval Try.prog F (callFunc 44 xs) S = some (.enter 44 xs) := rval_callFunc (by unfold entB; rw [Try.func44]; rfl)
theorem ni44 : Try.prog.inits.idxOf? 44 = none := by kernel_rfl
theorem re45 {F : Fr} {S : Hp} {xs : Array Value} : rval Try.prog F (callFunc 45 xs) S = some (.enter 45 xs) := rval_callFunc (by unfold entB; rw [Try.func45]; rfl)
theorem ni45 : Try.prog.inits.idxOf? 45 = none := by kernel_rfl
theorem en46 {F : Fr} {h : Hp} {xs : Array Value} {K : Next → Hp → Prop} : dwp Try.prog F (callFunc 46 xs) h K = K (.enter 46 xs) h := dwp_callFunc (by unfold entB; rw [Try.func46]; rfl)
theorem en48 {F : Fr} {h : Hp} {xs : Array Value} {K : Next → Hp → Prop} : dwp Try.prog F (callFunc 48 xs) h K = K (.enter 48 xs) h := dwp_callFunc (by unfold entB; rw [Try.func48]; rfl)
theorem en49 {F : Fr} {h : Hp} {xs : Array Value} {K : Next → Hp → Prop} : dwp Try.prog F (callFunc 49 xs) h K = K (.enter 49 xs) h := dwp_callFunc (by unfold entB; rw [Try.func49]; rfl)
theorem en50 {F : Fr} {h : Hp} {xs : Array Value} {K : Next → Hp → Prop} : dwp Try.prog F (callFunc 50 xs) h K = K (.enter 50 xs) h := dwp_callFunc (by unfold entB; rw [Try.func50]; rfl)
theorem en51 {F : Fr} {h : Hp} {xs : Array Value} {K : Next → Hp → Prop} : dwp Try.prog F (callFunc 51 xs) h K = K (.enter 51 xs) h := dwp_callFunc (by unfold entB; rw [Try.func51]; rfl)
theorem re52 {F : Fr} {S : Hp} {xs : Array Value} : rval Try.prog F (callFunc 52 xs) S = some (.enter 52 xs) := rval_callFunc (by unfold entB; rw [Try.func52]; rfl)
theorem ni52 : Try.prog.inits.idxOf? 52 = none := by kernel_rfl
theorem en53 {F : Fr} {h : Hp} {xs : Array Value} {K : Next → Hp → Prop} : dwp Try.prog F (callFunc 53 xs) h K = K (.enter 53 xs) h := dwp_callFunc (by unfold entB; rw [Try.func53]; rfl)
theorem en54 {F : Fr} {h : Hp} {xs : Array Value} {K : Next → Hp → Prop} : dwp Try.prog F (callFunc 54 xs) h K = K (.enter 54 xs) h := dwp_callFunc (by unfold entB; rw [Try.func54]; rfl)
theorem en55 {F : Fr} {h : Hp} {xs : Array Value} {K : Next → Hp → Prop} : dwp Try.prog F (callFunc 55 xs) h K = K (.enter 55 xs) h := dwp_callFunc (by unfold entB; rw [Try.func55]; rfl)
theorem en56 {F : Fr} {h : Hp} {xs : Array Value} {K : Next → Hp → Prop} : dwp Try.prog F (callFunc 56 xs) h K = K (.enter 56 xs) h := dwp_callFunc (by unfold entB; rw [Try.func56]; rfl)
theorem en57 {F : Fr} {h : Hp} {xs : Array Value} {K : Next → Hp → Prop} : dwp Try.prog F (callFunc 57 xs) h K = K (.enter 57 xs) h := dwp_callFunc (by unfold entB; rw [Try.func57]; rfl)
theorem en58 {F : Fr} {h : Hp} {xs : Array Value} {K : Next → Hp → Prop} : dwp Try.prog F (callFunc 58 xs) h K = K (.enter 58 xs) h := dwp_callFunc (by unfold entB; rw [Try.func58]; rfl)
theorem en59 {F : Fr} {h : Hp} {xs : Array Value} {K : Next → Hp → Prop} : dwp Try.prog F (callFunc 59 xs) h K = K (.enter 59 xs) h := dwp_callFunc (by unfold entB; rw [Try.func59]; rfl)
theorem en61 {F : Fr} {h : Hp} {xs : Array Value} {K : Next → Hp → Prop} : dwp Try.prog F (callFunc 61 xs) h K = K (.enter 61 xs) h := dwp_callFunc (by unfold entB; rw [Try.func61]; rfl)
theorem en62 {F : Fr} {h : Hp} {xs : Array Value} {K : Next → Hp → Prop} : dwp Try.prog F (callFunc 62 xs) h K = K (.enter 62 xs) h := dwp_callFunc (by unfold entB; rw [Try.func62]; rfl)
theorem en63 {F : Fr} {h : Hp} {xs : Array Value} {K : Next → Hp → Prop} : dwp Try.prog F (callFunc 63 xs) h K = K (.enter 63 xs) h := dwp_callFunc (by unfold entB; rw [Try.func63]; rfl)
theorem en67 {F : Fr} {h : Hp} {xs : Array Value} {K : Next → Hp → Prop} : dwp Try.prog F (callFunc 67 xs) h K = K (.enter 67 xs) h := dwp_callFunc (by unfold entB; rw [Try.func67]; rfl)
theorem en68 {F : Fr} {h : Hp} {xs : Array Value} {K : Next → Hp → Prop} : dwp Try.prog F (callFunc 68 xs) h K = K (.enter 68 xs) h := dwp_callFunc (by unfold entB; rw [Try.func68]; rfl)
theorem re69 {F : Fr} {S : Hp} {xs : Array Value} : rval Try.prog F (callFunc 69 xs) S = some (.enter 69 xs) := rval_callFunc (by unfold entB; rw [Try.func69]; rfl)
theorem ni69 : Try.prog.inits.idxOf? 69 = none := by kernel_rfl
theorem en70 {F : Fr} {h : Hp} {xs : Array Value} {K : Next → Hp → Prop} : dwp Try.prog F (callFunc 70 xs) h K = K (.enter 70 xs) h := dwp_callFunc (by unfold entB; rw [Try.func70]; rfl)
theorem en71 {F : Fr} {h : Hp} {xs : Array Value} {K : Next → Hp → Prop} : dwp Try.prog F (callFunc 71 xs) h K = K (.enter 71 xs) h := dwp_callFunc (by unfold entB; rw [Try.func71]; rfl)
theorem en73 {F : Fr} {h : Hp} {xs : Array Value} {K : Next → Hp → Prop} : dwp Try.prog F (callFunc 73 xs) h K = K (.enter 73 xs) h := dwp_callFunc (by unfold entB; rw [Try.func73]; rfl)
theorem en74 {F : Fr} {h : Hp} {xs : Array Value} {K : Next → Hp → Prop} : dwp Try.prog F (callFunc 74 xs) h K = K (.enter 74 xs) h := dwp_callFunc (by unfold entB; rw [Try.func74]; rfl)
theorem en76 {F : Fr} {h : Hp} {xs : Array Value} {K : Next → Hp → Prop} : dwp Try.prog F (callFunc 76 xs) h K = K (.enter 76 xs) h := dwp_callFunc (by unfold entB; rw [Try.func76]; rfl)
theorem en77 {F : Fr} {h : Hp} {xs : Array Value} {K : Next → Hp → Prop} : dwp Try.prog F (callFunc 77 xs) h K = K (.enter 77 xs) h := dwp_callFunc (by unfold entB; rw [Try.func77]; rfl)
theorem en78 {F : Fr} {h : Hp} {xs : Array Value} {K : Next → Hp → Prop} : dwp Try.prog F (callFunc 78 xs) h K = K (.enter 78 xs) h := dwp_callFunc (by unfold entB; rw [Try.func78]; rfl)
theorem en81 {F : Fr} {h : Hp} {xs : Array Value} {K : Next → Hp → Prop} : dwp Try.prog F (callFunc 81 xs) h K = K (.enter 81 xs) h := dwp_callFunc (by unfold entB; rw [Try.func81]; rfl)
theorem re87 {F : Fr} {S : Hp} {xs : Array Value} : rval Try.prog F (callFunc 87 xs) S = some (.enter 87 xs) := rval_callFunc (by unfold entB; rw [Try.func87]; rfl)
theorem ni87 : Try.prog.inits.idxOf? 87 = none := by kernel_rfl
theorem en91 {F : Fr} {h : Hp} {xs : Array Value} {K : Next → Hp → Prop} : dwp Try.prog F (callFunc 91 xs) h K = K (.enter 91 xs) h := dwp_callFunc (by unfold entB; rw [Try.func91]; rfl)
theorem en97 {F : Fr} {h : Hp} {xs : Array Value} {K : Next → Hp → Prop} : dwp Try.prog F (callFunc 97 xs) h K = K (.enter 97 xs) h := dwp_callFunc (by unfold entB; rw [Try.func97]; rfl)
theorem dry_eql26 {a0 b0 a1 b1 : Int} : dry Try.prog (binOp .eql 26 (.agg #[.int .i64 a0, .int .i64 a1]) (.agg #[.int .i64 b0, .int .i64 b1])) = some (.bool ((a0 == b0) && ((a1 == b1) && true))) := dry_eqlS Try.underlying26 (by kernel_rfl) (eqF_int rfl Try.isAgg3 Try.underlying3 rfl rfl (eqF_int rfl Try.isAgg3 Try.underlying3 rfl rfl eqF_nil))
theorem dwp_eql26 {F : Fr} {h : Hp} {K : Value → Hp → Prop} {a0 b0 a1 b1 : Int} : dwp Try.prog F (binOp .eql 26 (.agg #[.int .i64 a0, .int .i64 a1]) (.agg #[.int .i64 b0, .int .i64 b1])) h K = K (.bool ((a0 == b0) && ((a1 == b1) && true))) h := dry_dwp _ dry_eql26
theorem rval_eql26 {F : Fr} {S : Hp} {a0 b0 a1 b1 : Int} : rval Try.prog F (binOp .eql 26 (.agg #[.int .i64 a0, .int .i64 a1]) (.agg #[.int .i64 b0, .int .i64 b1])) S = some (.bool ((a0 == b0) && ((a1 == b1) && true))) := dry_rval _ dry_eql26
theorem eg26 : Try.prog.eqGuardType Try.prog.depth 26 = false := by kernel_rfl
theorem dry_neq4 {a b : Bool} : dry Try.prog (binOp .neq 4 (.bool a) (.bool b)) = some (.bool (!(a == b))) := dry_neqB Try.underlying4
theorem dwp_neq4 {F : Fr} {h : Hp} {K : Value → Hp → Prop} {a b : Bool} : dwp Try.prog F (binOp .neq 4 (.bool a) (.bool b)) h K = K (.bool (!(a == b))) h := dry_dwp _ dry_neq4
theorem dwp_conv3_118 {F : Fr} {h : Hp} {K : Value → Hp → Prop} {k : IntKind} {n : Int} : dwp Try.prog F (convert 3 118 (.int k n)) h K = K (.int .u64 (IntKind.u64.wrap n)) h := dry_dwp _ (dry_convI Try.underlying3 Try.underlying118)
theorem dwp_conv5_3 {F : Fr} {h : Hp} {K : Value → Hp → Prop} {k : IntKind} {n : Int} : dwp Try.prog F (convert 5 3 (.int k n)) h K = K (.int .i64 (IntKind.i64.wrap n)) h := dry_dwp _ (dry_convI Try.underlying5 Try.underlying3)
theorem rval_conv5_3 {F : Fr} {S : Hp} {k : IntKind} {n : Int} : rval Try.prog F (convert 5 3 (.int k n)) S = some (.int .i64 (IntKind.i64.wrap n)) := dry_rval _ (dry_convI Try.underlying5 Try.underlying3)
theorem dwp_conv24_3 {F : Fr} {h : Hp} {K : Value → Hp → Prop} {k : IntKind} {n : Int} : dwp Try.prog F (convert 24 3 (.int k n)) h K = K (.int .i64 (IntKind.i64.wrap n)) h := dry_dwp _ (dry_convI Try.underlying24 Try.underlying3)
theorem dwp_conv134_5 {F : Fr} {h : Hp} {K : Value → Hp → Prop} {k : IntKind} {n : Int} : dwp Try.prog F (convert 134 5 (.int k n)) h K = K (.int .u8 (IntKind.u8.wrap n)) h := dry_dwp _ (dry_convI Try.underlying134 Try.underlying5)
theorem mo : Try.prog.follows .mixedOrders = true := by kernel_rfl
end Go.Proofs.Ytlblahfndlgfmaa
