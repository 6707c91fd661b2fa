/-
  The types of the program, as the walk over a part of memory asks them. Conditions: none. Printed by facts.py (own program).
-/
import Derived.Test.YtlbpfmnobapidaaProg
import Derived.Test.YtlbpfmnobapidaaS8
namespace Go.Proofs.Ytlbpfmnobapidaa
open Go Go.SL Go.RowKit
set_option linter.unusedVariables false
theorem sz3 {F : Fr} {h : Hp} {K : Nat → Hp → Prop} : dwp Try.prog F (sizeOf 3) h K = K 1 h := dwp_size_of Try.sizeOf3
theorem rs3 {F : Fr} {S : Hp} : rval Try.prog F (sizeOf 3) S = some 1 := rval_size Try.sizeOf3
theorem ag3 {F : Fr} {h : Hp} {K : Bool → Hp → Prop} : dwp Try.prog F (isAgg 3) h K = K false h := dwp_agg_of Try.isAgg3
theorem ra3 {F : Fr} {S : Hp} : rval Try.prog F (isAgg 3) S = some false := rval_agg Try.isAgg3
theorem ze3 {F : Fr} {h : Hp} {K : Value → Hp → Prop} : dwp Try.prog F (zeroValue 3) h K = K (Go.Value.int Go.IntKind.i64 0) h := dwp_zero_of Try.zeroValue3
theorem rz3 {F : Fr} {S : Hp} : rval Try.prog F (zeroValue 3) S = some (Go.Value.int Go.IntKind.i64 0) := rval_zero Try.zeroValue3
theorem sz4 {F : Fr} {h : Hp} {K : Nat → Hp → Prop} : dwp Try.prog F (sizeOf 4) h K = K 1 h := dwp_size_of Try.sizeOf4
theorem rs4 {F : Fr} {S : Hp} : rval Try.prog F (sizeOf 4) S = some 1 := rval_size Try.sizeOf4
theorem ag4 {F : Fr} {h : Hp} {K : Bool → Hp → Prop} : dwp Try.prog F (isAgg 4) h K = K false h := dwp_agg_of Try.isAgg4
theorem ra4 {F : Fr} {S : Hp} : rval Try.prog F (isAgg 4) S = some false := rval_agg Try.isAgg4
theorem ze4 {F : Fr} {h : Hp} {K : Value → Hp → Prop} : dwp Try.prog F (zeroValue 4) h K = K (Go.Value.bool false) h := dwp_zero_of Try.zeroValue4
theorem sz5 {F : Fr} {h : Hp} {K : Nat → Hp → Prop} : dwp Try.prog F (sizeOf 5) h K = K 1 h := dwp_size_of Try.sizeOf5
theorem ag5 {F : Fr} {h : Hp} {K : Bool → Hp → Prop} : dwp Try.prog F (isAgg 5) h K = K false h := dwp_agg_of Try.isAgg5
theorem ra5 {F : Fr} {S : Hp} : rval Try.prog F (isAgg 5) S = some false := rval_agg Try.isAgg5
theorem un23 {F : Fr} {h : Hp} {K : TypeDesc → Hp → Prop} : dwp Try.prog F (underlying 23) h K = K (Go.TypeDesc.struct #[{ name := "Low", type := 3, offset := 0, embedded := false, tag := "", pkgPath := "", byteOffset := 0 }, { name := "High", type := 3, offset := 1, embedded := false, tag := "", pkgPath := "", byteOffset := 8 }]) h := by rw [dwp_underlying, Try.underlying23]; rfl
theorem ru23 {F : Fr} {S : Hp} : rval Try.prog F (underlying 23) S = some (Go.TypeDesc.struct #[{ name := "Low", type := 3, offset := 0, embedded := false, tag := "", pkgPath := "", byteOffset := 0 }, { name := "High", type := 3, offset := 1, embedded := false, tag := "", pkgPath := "", byteOffset := 8 }]) := rval_un Try.underlying23
theorem sz23 {F : Fr} {h : Hp} {K : Nat → Hp → Prop} : dwp Try.prog F (sizeOf 23) h K = K 2 h := dwp_size_of Try.sizeOf23
theorem rs23 {F : Fr} {S : Hp} : rval Try.prog F (sizeOf 23) S = some 2 := rval_size Try.sizeOf23
theorem ag23 {F : Fr} {h : Hp} {K : Bool → Hp → Prop} : dwp Try.prog F (isAgg 23) h K = K true h := dwp_agg_of Try.isAgg23
theorem ra23 {F : Fr} {S : Hp} : rval Try.prog F (isAgg 23) S = some true := rval_agg Try.isAgg23
theorem ze23 {F : Fr} {h : Hp} {K : Value → Hp → Prop} : dwp Try.prog F (zeroValue 23) h K = K (Go.Value.agg #[Go.Value.int Go.IntKind.i64 0, Go.Value.int Go.IntKind.i64 0]) h := dwp_zero_of Try.zeroValue23
theorem rz23 {F : Fr} {S : Hp} : rval Try.prog F (zeroValue 23) S = some (Go.Value.agg #[Go.Value.int Go.IntKind.i64 0, Go.Value.int Go.IntKind.i64 0]) := rval_zero Try.zeroValue23
theorem un24 {F : Fr} {h : Hp} {K : TypeDesc → Hp → Prop} : dwp Try.prog F (underlying 24) h K = K (Go.TypeDesc.slice 23) h := by rw [dwp_underlying, Try.underlying24]; rfl
theorem ru24 {F : Fr} {S : Hp} : rval Try.prog F (underlying 24) S = some (Go.TypeDesc.slice 23) := rval_un Try.underlying24
theorem ix24 {F : Fr} {h : Hp} {a : Addr} {n c : Nat} {k : IntKind} {i : Int} {K : Value → Hp → Prop} (h1 : 0 ≤ i) (h2 : i < (n : Int)) : dwp Try.prog F (Instr.indexAt 24 (.slice (some a) n c) (.int k i)) h K = K (.pointer (some (a.add (i.toNat * 2)))) h := dwp_ixS Try.underlying24 Try.sizeOf23 h1 h2
theorem rx24 {F : Fr} {S : Hp} {a : Addr} {n c : Nat} {k : IntKind} {i : Int} (h1 : 0 ≤ i) (h2 : i < (n : Int)) : rval Try.prog F (Instr.indexAt 24 (.slice (some a) n c) (.int k i)) S = some (.pointer (some (a.add (i.toNat * 2)))) := rval_ixS Try.underlying24 Try.sizeOf23 h1 h2
theorem sz24 {F : Fr} {h : Hp} {K : Nat → Hp → Prop} : dwp Try.prog F (sizeOf 24) h K = K 1 h := dwp_size_of Try.sizeOf24
theorem rs24 {F : Fr} {S : Hp} : rval Try.prog F (sizeOf 24) S = some 1 := rval_size Try.sizeOf24
theorem ag24 {F : Fr} {h : Hp} {K : Bool → Hp → Prop} : dwp Try.prog F (isAgg 24) h K = K false h := dwp_agg_of Try.isAgg24
theorem ra24 {F : Fr} {S : Hp} : rval Try.prog F (isAgg 24) S = some false := rval_agg Try.isAgg24
theorem un26 {F : Fr} {h : Hp} {K : TypeDesc → Hp → Prop} : dwp Try.prog F (underlying 26) h K = K (Go.TypeDesc.struct #[{ name := "Down", type := 4, offset := 0, embedded := false, tag := "", pkgPath := "", byteOffset := 0 }, { name := "Set", type := 23, offset := 1, embedded := false, tag := "", pkgPath := "", byteOffset := 8 }, { name := "Scatter", type := 23, offset := 3, embedded := false, tag := "", pkgPath := "", byteOffset := 24 }, { name := "Wears", type := 24, offset := 5, embedded := false, tag := "", pkgPath := "", byteOffset := 40 }]) h := by rw [dwp_underlying, Try.underlying26]; rfl
theorem ru26 {F : Fr} {S : Hp} : rval Try.prog F (underlying 26) S = some (Go.TypeDesc.struct #[{ name := "Down", type := 4, offset := 0, embedded := false, tag := "", pkgPath := "", byteOffset := 0 }, { name := "Set", type := 23, offset := 1, embedded := false, tag := "", pkgPath := "", byteOffset := 8 }, { name := "Scatter", type := 23, offset := 3, embedded := false, tag := "", pkgPath := "", byteOffset := 24 }, { name := "Wears", type := 24, offset := 5, embedded := false, tag := "", pkgPath := "", byteOffset := 40 }]) := rval_un Try.underlying26
theorem sz26 {F : Fr} {h : Hp} {K : Nat → Hp → Prop} : dwp Try.prog F (sizeOf 26) h K = K 6 h := dwp_size_of Try.sizeOf26
theorem rs26 {F : Fr} {S : Hp} : rval Try.prog F (sizeOf 26) S = some 6 := rval_size Try.sizeOf26
theorem ag26 {F : Fr} {h : Hp} {K : Bool → Hp → Prop} : dwp Try.prog F (isAgg 26) h K = K true h := dwp_agg_of Try.isAgg26
theorem ze26 {F : Fr} {h : Hp} {K : Value → Hp → Prop} : dwp Try.prog F (zeroValue 26) h K = K (Go.Value.agg #[Go.Value.bool false, Go.Value.int Go.IntKind.i64 0, Go.Value.int Go.IntKind.i64 0, Go.Value.int Go.IntKind.i64 0, Go.Value.int Go.IntKind.i64 0, Go.Value.slice none 0 0]) h := dwp_zero_of Try.zeroValue26
theorem un27 {F : Fr} {h : Hp} {K : TypeDesc → Hp → Prop} : dwp Try.prog F (underlying 27) h K = K (Go.TypeDesc.slice 88) h := by rw [dwp_underlying, Try.underlying27]; rfl
theorem ru27 {F : Fr} {S : Hp} : rval Try.prog F (underlying 27) S = some (Go.TypeDesc.slice 88) := rval_un Try.underlying27
theorem ix27 {F : Fr} {h : Hp} {a : Addr} {n c : Nat} {k : IntKind} {i : Int} {K : Value → Hp → Prop} (h1 : 0 ≤ i) (h2 : i < (n : Int)) : dwp Try.prog F (Instr.indexAt 27 (.slice (some a) n c) (.int k i)) h K = K (.pointer (some (a.add (i.toNat * 4)))) h := dwp_ixS Try.underlying27 Try.sizeOf88 h1 h2
theorem sz27 {F : Fr} {h : Hp} {K : Nat → Hp → Prop} : dwp Try.prog F (sizeOf 27) h K = K 1 h := dwp_size_of Try.sizeOf27
theorem ag27 {F : Fr} {h : Hp} {K : Bool → Hp → Prop} : dwp Try.prog F (isAgg 27) h K = K false h := dwp_agg_of Try.isAgg27
theorem sz33 {F : Fr} {h : Hp} {K : Nat → Hp → Prop} : dwp Try.prog F (sizeOf 33) h K = K 1 h := dwp_size_of Try.sizeOf33
theorem ag33 {F : Fr} {h : Hp} {K : Bool → Hp → Prop} : dwp Try.prog F (isAgg 33) h K = K false h := dwp_agg_of Try.isAgg33
theorem ra33 {F : Fr} {S : Hp} : rval Try.prog F (isAgg 33) S = some false := rval_agg Try.isAgg33
theorem ze33 {F : Fr} {h : Hp} {K : Value → Hp → Prop} : dwp Try.prog F (zeroValue 33) h K = K (Go.Value.int Go.IntKind.i64 0) h := dwp_zero_of Try.zeroValue33
theorem un43 {F : Fr} {h : Hp} {K : TypeDesc → Hp → Prop} : dwp Try.prog F (underlying 43) h K = K (Go.TypeDesc.slice 51) h := by rw [dwp_underlying, Try.underlying43]; rfl
theorem ru43 {F : Fr} {S : Hp} : rval Try.prog F (underlying 43) S = some (Go.TypeDesc.slice 51) := rval_un Try.underlying43
theorem ix43 {F : Fr} {h : Hp} {a : Addr} {n c : Nat} {k : IntKind} {i : Int} {K : Value → Hp → Prop} (h1 : 0 ≤ i) (h2 : i < (n : Int)) : dwp Try.prog F (Instr.indexAt 43 (.slice (some a) n c) (.int k i)) h K = K (.pointer (some (a.add (i.toNat * 2)))) h := dwp_ixS Try.underlying43 Try.sizeOf51 h1 h2
theorem rx43 {F : Fr} {S : Hp} {a : Addr} {n c : Nat} {k : IntKind} {i : Int} (h1 : 0 ≤ i) (h2 : i < (n : Int)) : rval Try.prog F (Instr.indexAt 43 (.slice (some a) n c) (.int k i)) S = some (.pointer (some (a.add (i.toNat * 2)))) := rval_ixS Try.underlying43 Try.sizeOf51 h1 h2
theorem sz43 {F : Fr} {h : Hp} {K : Nat → Hp → Prop} : dwp Try.prog F (sizeOf 43) h K = K 1 h := dwp_size_of Try.sizeOf43
theorem ag43 {F : Fr} {h : Hp} {K : Bool → Hp → Prop} : dwp Try.prog F (isAgg 43) h K = K false h := dwp_agg_of Try.isAgg43
theorem ra43 {F : Fr} {S : Hp} : rval Try.prog F (isAgg 43) S = some false := rval_agg Try.isAgg43
theorem ze43 {F : Fr} {h : Hp} {K : Value → Hp → Prop} : dwp Try.prog F (zeroValue 43) h K = K (Go.Value.slice none 0 0) h := dwp_zero_of Try.zeroValue43
theorem un51 {F : Fr} {h : Hp} {K : TypeDesc → Hp → Prop} : dwp Try.prog F (underlying 51) h K = K (Go.TypeDesc.struct #[{ name := "From", type := 3, offset := 0, embedded := false, tag := "", pkgPath := "", byteOffset := 0 }, { name := "Target", type := 3, offset := 1, embedded := false, tag := "", pkgPath := "", byteOffset := 8 }]) h := by rw [dwp_underlying, Try.underlying51]; rfl
theorem ru51 {F : Fr} {S : Hp} : rval Try.prog F (underlying 51) S = some (Go.TypeDesc.struct #[{ name := "From", type := 3, offset := 0, embedded := false, tag := "", pkgPath := "", byteOffset := 0 }, { name := "Target", type := 3, offset := 1, embedded := false, tag := "", pkgPath := "", byteOffset := 8 }]) := rval_un Try.underlying51
theorem sz51 {F : Fr} {h : Hp} {K : Nat → Hp → Prop} : dwp Try.prog F (sizeOf 51) h K = K 2 h := dwp_size_of Try.sizeOf51
theorem rs51 {F : Fr} {S : Hp} : rval Try.prog F (sizeOf 51) S = some 2 := rval_size Try.sizeOf51
theorem ag51 {F : Fr} {h : Hp} {K : Bool → Hp → Prop} : dwp Try.prog F (isAgg 51) h K = K true h := dwp_agg_of Try.isAgg51
theorem ra51 {F : Fr} {S : Hp} : rval Try.prog F (isAgg 51) S = some true := rval_agg Try.isAgg51
theorem ze51 {F : Fr} {h : Hp} {K : Value → Hp → Prop} : dwp Try.prog F (zeroValue 51) h K = K (Go.Value.agg #[Go.Value.int Go.IntKind.i64 0, Go.Value.int Go.IntKind.i64 0]) h := dwp_zero_of Try.zeroValue51
theorem rz51 {F : Fr} {S : Hp} : rval Try.prog F (zeroValue 51) S = some (Go.Value.agg #[Go.Value.int Go.IntKind.i64 0, Go.Value.int Go.IntKind.i64 0]) := rval_zero Try.zeroValue51
theorem un52 {F : Fr} {h : Hp} {K : TypeDesc → Hp → Prop} : dwp Try.prog F (underlying 52) h K = K (Go.TypeDesc.slice 3) h := by rw [dwp_underlying, Try.underlying52]; rfl
theorem ru52 {F : Fr} {S : Hp} : rval Try.prog F (underlying 52) S = some (Go.TypeDesc.slice 3) := rval_un Try.underlying52
theorem ix52 {F : Fr} {h : Hp} {a : Addr} {n c : Nat} {k : IntKind} {i : Int} {K : Value → Hp → Prop} (h1 : 0 ≤ i) (h2 : i < (n : Int)) : dwp Try.prog F (Instr.indexAt 52 (.slice (some a) n c) (.int k i)) h K = K (.pointer (some (a.add (i.toNat * 1)))) h := dwp_ixS Try.underlying52 Try.sizeOf3 h1 h2
theorem rx52 {F : Fr} {S : Hp} {a : Addr} {n c : Nat} {k : IntKind} {i : Int} (h1 : 0 ≤ i) (h2 : i < (n : Int)) : rval Try.prog F (Instr.indexAt 52 (.slice (some a) n c) (.int k i)) S = some (.pointer (some (a.add (i.toNat * 1)))) := rval_ixS Try.underlying52 Try.sizeOf3 h1 h2
theorem sz52 {F : Fr} {h : Hp} {K : Nat → Hp → Prop} : dwp Try.prog F (sizeOf 52) h K = K 1 h := dwp_size_of Try.sizeOf52
theorem rs52 {F : Fr} {S : Hp} : rval Try.prog F (sizeOf 52) S = some 1 := rval_size Try.sizeOf52
theorem ra52 {F : Fr} {S : Hp} : rval Try.prog F (isAgg 52) S = some false := rval_agg Try.isAgg52
theorem un74 {F : Fr} {h : Hp} {K : TypeDesc → Hp → Prop} : dwp Try.prog F (underlying 74) h K = K (Go.TypeDesc.array 2 5) h := by rw [dwp_underlying, Try.underlying74]; rfl
theorem ix74 {F : Fr} {h : Hp} {a : Addr} {k : IntKind} {i : Int} {K : Value → Hp → Prop} (h1 : 0 ≤ i) (h2 : i < ((2 : Nat) : Int)) : dwp Try.prog F (Instr.indexAt 74 (.pointer (some a)) (.int k i)) h K = K (.pointer (some (a.add (i.toNat * 1)))) h := dwp_ixA Try.underlying74 Try.sizeOf5 h1 h2
theorem rx74 {F : Fr} {S : Hp} {a : Addr} {k : IntKind} {i : Int} (h1 : 0 ≤ i) (h2 : i < ((2 : Nat) : Int)) : rval Try.prog F (Instr.indexAt 74 (.pointer (some a)) (.int k i)) S = some (.pointer (some (a.add (i.toNat * 1)))) := rval_ixA Try.underlying74 Try.sizeOf5 h1 h2
theorem sz74 {F : Fr} {h : Hp} {K : Nat → Hp → Prop} : dwp Try.prog F (sizeOf 74) h K = K 2 h := dwp_size_of Try.sizeOf74
theorem rs74 {F : Fr} {S : Hp} : rval Try.prog F (sizeOf 74) S = some 2 := rval_size Try.sizeOf74
theorem ag74 {F : Fr} {h : Hp} {K : Bool → Hp → Prop} : dwp Try.prog F (isAgg 74) h K = K true h := dwp_agg_of Try.isAgg74
theorem ze74 {F : Fr} {h : Hp} {K : Value → Hp → Prop} : dwp Try.prog F (zeroValue 74) h K = K (Go.Value.agg #[Go.Value.int Go.IntKind.u8 0, Go.Value.int Go.IntKind.u8 0]) h := dwp_zero_of Try.zeroValue74
theorem un75 {F : Fr} {h : Hp} {K : TypeDesc → Hp → Prop} : dwp Try.prog F (underlying 75) h K = K (Go.TypeDesc.slice 74) h := by rw [dwp_underlying, Try.underlying75]; rfl
theorem ix75 {F : Fr} {h : Hp} {a : Addr} {n c : Nat} {k : IntKind} {i : Int} {K : Value → Hp → Prop} (h1 : 0 ≤ i) (h2 : i < (n : Int)) : dwp Try.prog F (Instr.indexAt 75 (.slice (some a) n c) (.int k i)) h K = K (.pointer (some (a.add (i.toNat * 2)))) h := dwp_ixS Try.underlying75 Try.sizeOf74 h1 h2
theorem sz75 {F : Fr} {h : Hp} {K : Nat → Hp → Prop} : dwp Try.prog F (sizeOf 75) h K = K 1 h := dwp_size_of Try.sizeOf75
theorem ag75 {F : Fr} {h : Hp} {K : Bool → Hp → Prop} : dwp Try.prog F (isAgg 75) h K = K false h := dwp_agg_of Try.isAgg75
theorem un76 {F : Fr} {h : Hp} {K : TypeDesc → Hp → Prop} : dwp Try.prog F (underlying 76) h K = K (Go.TypeDesc.slice 116) h := by rw [dwp_underlying, Try.underlying76]; rfl
theorem ix76 {F : Fr} {h : Hp} {a : Addr} {n c : Nat} {k : IntKind} {i : Int} {K : Value → Hp → Prop} (h1 : 0 ≤ i) (h2 : i < (n : Int)) : dwp Try.prog F (Instr.indexAt 76 (.slice (some a) n c) (.int k i)) h K = K (.pointer (some (a.add (i.toNat * 4)))) h := dwp_ixS Try.underlying76 Try.sizeOf116 h1 h2
theorem sz76 {F : Fr} {h : Hp} {K : Nat → Hp → Prop} : dwp Try.prog F (sizeOf 76) h K = K 1 h := dwp_size_of Try.sizeOf76
theorem ag76 {F : Fr} {h : Hp} {K : Bool → Hp → Prop} : dwp Try.prog F (isAgg 76) h K = K false h := dwp_agg_of Try.isAgg76
theorem un79 {F : Fr} {h : Hp} {K : TypeDesc → Hp → Prop} : dwp Try.prog F (underlying 79) h K = K (Go.TypeDesc.struct #[{ name := "Down", type := 4, offset := 0, embedded := false, tag := "", pkgPath := "", byteOffset := 0 }, { name := "Set", type := 74, offset := 1, embedded := false, tag := "", pkgPath := "", byteOffset := 1 }, { name := "Wears", type := 75, offset := 3, embedded := false, tag := "", pkgPath := "", byteOffset := 8 }, { name := "Orders", type := 76, offset := 4, embedded := false, tag := "", pkgPath := "", byteOffset := 32 }, { name := "Truth", type := 77, offset := 5, embedded := false, tag := "", pkgPath := "", byteOffset := 56 }]) h := by rw [dwp_underlying, Try.underlying79]; rfl
theorem ru79 {F : Fr} {S : Hp} : rval Try.prog F (underlying 79) S = some (Go.TypeDesc.struct #[{ name := "Down", type := 4, offset := 0, embedded := false, tag := "", pkgPath := "", byteOffset := 0 }, { name := "Set", type := 74, offset := 1, embedded := false, tag := "", pkgPath := "", byteOffset := 1 }, { name := "Wears", type := 75, offset := 3, embedded := false, tag := "", pkgPath := "", byteOffset := 8 }, { name := "Orders", type := 76, offset := 4, embedded := false, tag := "", pkgPath := "", byteOffset := 32 }, { name := "Truth", type := 77, offset := 5, embedded := false, tag := "", pkgPath := "", byteOffset := 56 }]) := rval_un Try.underlying79
theorem sz79 {F : Fr} {h : Hp} {K : Nat → Hp → Prop} : dwp Try.prog F (sizeOf 79) h K = K 6 h := dwp_size_of Try.sizeOf79
theorem rs79 {F : Fr} {S : Hp} : rval Try.prog F (sizeOf 79) S = some 6 := rval_size Try.sizeOf79
theorem ag79 {F : Fr} {h : Hp} {K : Bool → Hp → Prop} : dwp Try.prog F (isAgg 79) h K = K true h := dwp_agg_of Try.isAgg79
theorem ra79 {F : Fr} {S : Hp} : rval Try.prog F (isAgg 79) S = some true := rval_agg Try.isAgg79
theorem un88 {F : Fr} {h : Hp} {K : TypeDesc → Hp → Prop} : dwp Try.prog F (underlying 88) h K = K (Go.TypeDesc.struct #[{ name := "Pieces", type := 3, offset := 0, embedded := false, tag := "", pkgPath := "", byteOffset := 0 }, { name := "Steel", type := 3, offset := 1, embedded := false, tag := "", pkgPath := "", byteOffset := 8 }, { name := "Zone", type := 23, offset := 2, embedded := false, tag := "", pkgPath := "", byteOffset := 16 }]) h := by rw [dwp_underlying, Try.underlying88]; rfl
theorem ru88 {F : Fr} {S : Hp} : rval Try.prog F (underlying 88) S = some (Go.TypeDesc.struct #[{ name := "Pieces", type := 3, offset := 0, embedded := false, tag := "", pkgPath := "", byteOffset := 0 }, { name := "Steel", type := 3, offset := 1, embedded := false, tag := "", pkgPath := "", byteOffset := 8 }, { name := "Zone", type := 23, offset := 2, embedded := false, tag := "", pkgPath := "", byteOffset := 16 }]) := rval_un Try.underlying88
theorem sz88 {F : Fr} {h : Hp} {K : Nat → Hp → Prop} : dwp Try.prog F (sizeOf 88) h K = K 4 h := dwp_size_of Try.sizeOf88
theorem rs88 {F : Fr} {S : Hp} : rval Try.prog F (sizeOf 88) S = some 4 := rval_size Try.sizeOf88
theorem ag88 {F : Fr} {h : Hp} {K : Bool → Hp → Prop} : dwp Try.prog F (isAgg 88) h K = K true h := dwp_agg_of Try.isAgg88
theorem ze88 {F : Fr} {h : Hp} {K : Value → Hp → Prop} : dwp Try.prog F (zeroValue 88) h K = K (Go.Value.agg #[Go.Value.int Go.IntKind.i64 0, Go.Value.int Go.IntKind.i64 0, Go.Value.int Go.IntKind.i64 0, Go.Value.int Go.IntKind.i64 0]) h := dwp_zero_of Try.zeroValue88
theorem rz88 {F : Fr} {S : Hp} : rval Try.prog F (zeroValue 88) S = some (Go.Value.agg #[Go.Value.int Go.IntKind.i64 0, Go.Value.int Go.IntKind.i64 0, Go.Value.int Go.IntKind.i64 0, Go.Value.int Go.IntKind.i64 0]) := rval_zero Try.zeroValue88
theorem sz98 {F : Fr} {h : Hp} {K : Nat → Hp → Prop} : dwp Try.prog F (sizeOf 98) h K = K 1 h := dwp_size_of Try.sizeOf98
theorem ag98 {F : Fr} {h : Hp} {K : Bool → Hp → Prop} : dwp Try.prog F (isAgg 98) h K = K false h := dwp_agg_of Try.isAgg98
theorem ra98 {F : Fr} {S : Hp} : rval Try.prog F (isAgg 98) S = some false := rval_agg Try.isAgg98
theorem ze98 {F : Fr} {h : Hp} {K : Value → Hp → Prop} : dwp Try.prog F (zeroValue 98) h K = K (Go.Value.pointer none) h := dwp_zero_of Try.zeroValue98
theorem un116 {F : Fr} {h : Hp} {K : TypeDesc → Hp → Prop} : dwp Try.prog F (underlying 116) h K = K (Go.TypeDesc.array 4 5) h := by rw [dwp_underlying, Try.underlying116]; rfl
theorem ix116 {F : Fr} {h : Hp} {a : Addr} {k : IntKind} {i : Int} {K : Value → Hp → Prop} (h1 : 0 ≤ i) (h2 : i < ((4 : Nat) : Int)) : dwp Try.prog F (Instr.indexAt 116 (.pointer (some a)) (.int k i)) h K = K (.pointer (some (a.add (i.toNat * 1)))) h := dwp_ixA Try.underlying116 Try.sizeOf5 h1 h2
theorem rx116 {F : Fr} {S : Hp} {a : Addr} {k : IntKind} {i : Int} (h1 : 0 ≤ i) (h2 : i < ((4 : Nat) : Int)) : rval Try.prog F (Instr.indexAt 116 (.pointer (some a)) (.int k i)) S = some (.pointer (some (a.add (i.toNat * 1)))) := rval_ixA Try.underlying116 Try.sizeOf5 h1 h2
theorem sz116 {F : Fr} {h : Hp} {K : Nat → Hp → Prop} : dwp Try.prog F (sizeOf 116) h K = K 4 h := dwp_size_of Try.sizeOf116
theorem ag116 {F : Fr} {h : Hp} {K : Bool → Hp → Prop} : dwp Try.prog F (isAgg 116) h K = K true h := dwp_agg_of Try.isAgg116
theorem ze116 {F : Fr} {h : Hp} {K : Value → Hp → Prop} : dwp Try.prog F (zeroValue 116) h K = K (Go.Value.agg #[Go.Value.int Go.IntKind.u8 0, Go.Value.int Go.IntKind.u8 0, Go.Value.int Go.IntKind.u8 0, Go.Value.int Go.IntKind.u8 0]) h := dwp_zero_of Try.zeroValue116
theorem un122 {F : Fr} {h : Hp} {K : TypeDesc → Hp → Prop} : dwp Try.prog F (underlying 122) h K = K (Go.TypeDesc.struct #[{ name := "DieTool", type := 26, offset := 0, embedded := true, tag := "", pkgPath := "", byteOffset := 0 }, { name := "orders", type := 27, offset := 6, embedded := false, tag := "", pkgPath := "acme/die", byteOffset := 64 }, { name := "first", type := 52, offset := 7, embedded := false, tag := "", pkgPath := "acme/die", byteOffset := 88 }, { name := "down", type := 4, offset := 8, embedded := false, tag := "", pkgPath := "acme/die", byteOffset := 112 }]) h := by rw [dwp_underlying, Try.underlying122]; rfl
theorem ru122 {F : Fr} {S : Hp} : rval Try.prog F (underlying 122) S = some (Go.TypeDesc.struct #[{ name := "DieTool", type := 26, offset := 0, embedded := true, tag := "", pkgPath := "", byteOffset := 0 }, { name := "orders", type := 27, offset := 6, embedded := false, tag := "", pkgPath := "acme/die", byteOffset := 64 }, { name := "first", type := 52, offset := 7, embedded := false, tag := "", pkgPath := "acme/die", byteOffset := 88 }, { name := "down", type := 4, offset := 8, embedded := false, tag := "", pkgPath := "acme/die", byteOffset := 112 }]) := rval_un Try.underlying122
theorem ze122 {F : Fr} {h : Hp} {K : Value → Hp → Prop} : dwp Try.prog F (zeroValue 122) h K = K (Go.Value.agg #[Go.Value.bool false, Go.Value.int Go.IntKind.i64 0, Go.Value.int Go.IntKind.i64 0, Go.Value.int Go.IntKind.i64 0, Go.Value.int Go.IntKind.i64 0, Go.Value.slice none 0 0, Go.Value.slice none 0 0, Go.Value.slice none 0 0, Go.Value.bool false]) h := dwp_zero_of Try.zeroValue122
theorem en14 {F : Fr} {h : Hp} {xs : Array Value} {K : Next → Hp → Prop} : dwp Try.prog F (callFunc 14 xs) h K = K (.enter 14 xs) h := dwp_callFunc (by unfold entB; rw [Try.func14]; rfl)
theorem en15 {F : Fr} {h : Hp} {xs : Array Value} {K : Next → Hp → Prop} : dwp Try.prog F (callFunc 15 xs) h K = K (.enter 15 xs) h := dwp_callFunc (by unfold entB; rw [Try.func15]; rfl)
theorem en16 {F : Fr} {h : Hp} {xs : Array Value} {K : Next → Hp → Prop} : dwp Try.prog F (callFunc 16 xs) h K = K (.enter 16 xs) h := dwp_callFunc (by unfold entB; rw [Try.func16]; rfl)
theorem en17 {F : Fr} {h : Hp} {xs : Array Value} {K : Next → Hp → Prop} : dwp Try.prog F (callFunc 17 xs) h K = K (.enter 17 xs) h := dwp_callFunc (by unfold entB; rw [Try.func17]; rfl)
theorem en18 {F : Fr} {h : Hp} {xs : Array Value} {K : Next → Hp → Prop} : dwp Try.prog F (callFunc 18 xs) h K = K (.enter 18 xs) h := dwp_callFunc (by unfold entB; rw [Try.func18]; rfl)
theorem en19 {F : Fr} {h : Hp} {xs : Array Value} {K : Next → Hp → Prop} : dwp Try.prog F (callFunc 19 xs) h K = K (.enter 19 xs) h := dwp_callFunc (by unfold entB; rw [Try.func19]; rfl)
theorem en25 {F : Fr} {h : Hp} {xs : Array Value} {K : Next → Hp → Prop} : dwp Try.prog F (callFunc 25 xs) h K = K (.enter 25 xs) h := dwp_callFunc (by unfold entB; rw [Try.func25]; rfl)
theorem en26 {F : Fr} {h : Hp} {xs : Array Value} {K : Next → Hp → Prop} : dwp Try.prog F (callFunc 26 xs) h K = K (.enter 26 xs) h := dwp_callFunc (by unfold entB; rw [Try.func26]; rfl)
theorem en30 {F : Fr} {h : Hp} {xs : Array Value} {K : Next → Hp → Prop} : dwp Try.prog F (callFunc 30 xs) h K = K (.enter 30 xs) h := dwp_callFunc (by unfold entB; rw [Try.func30]; rfl)
theorem en34 {F : Fr} {h : Hp} {xs : Array Value} {K : Next → Hp → Prop} : dwp Try.prog F (callFunc 34 xs) h K = K (.enter 34 xs) h := dwp_callFunc (by unfold entB; rw [Try.func34]; rfl)
theorem en35 {F : Fr} {h : Hp} {xs : Array Value} {K : Next → Hp → Prop} : dwp Try.prog F (callFunc 35 xs) h K = K (.enter 35 xs) h := dwp_callFunc (by unfold entB; rw [Try.func35]; rfl)
theorem en40 {F : Fr} {h : Hp} {xs : Array Value} {K : Next → Hp → Prop} : dwp Try.prog F (callFunc 40 xs) h K = K (.enter 40 xs) h := dwp_callFunc (by unfold entB; rw [Try.func40]; rfl)
theorem re41 {F : Fr} {S : Hp} {xs : Array Value} : rval Try.prog F (callFunc 41 xs) S = some (.enter 41 xs) := rval_callFunc (by unfold entB; rw [Try.func41]; rfl)
theorem en44 {F : Fr} {h : Hp} {xs : Array Value} {K : Next → Hp → Prop} : dwp Try.prog F (callFunc 44 xs) h K = K (.enter 44 xs) h := dwp_callFunc (by unfold entB; rw [Try.func44]; rfl)
theorem re44 {F : Fr} {S : Hp} {xs : Array Value} : rval Try.prog F (callFunc 44 xs) S = some (.enter 44 xs) := rval_callFunc (by unfold entB; rw [Try.func44]; rfl)
theorem ni44 : Try.prog.inits.idxOf? 44 = none := by kernel_rfl
theorem en48 {F : Fr} {h : Hp} {xs : Array Value} {K : Next → Hp → Prop} : dwp Try.prog F (callFunc 48 xs) h K = K (.enter 48 xs) h := dwp_callFunc (by unfold entB; rw [Try.func48]; rfl)
theorem re48 {F : Fr} {S : Hp} {xs : Array Value} : rval Try.prog F (callFunc 48 xs) S = some (.enter 48 xs) := rval_callFunc (by unfold entB; rw [Try.func48]; rfl)
theorem re49 {F : Fr} {S : Hp} {xs : Array Value} : rval Try.prog F (callFunc 49 xs) S = some (.enter 49 xs) := rval_callFunc (by unfold entB; rw [Try.func49]; rfl)
theorem en50 {F : Fr} {h : Hp} {xs : Array Value} {K : Next → Hp → Prop} : dwp Try.prog F (callFunc 50 xs) h K = K (.enter 50 xs) h := dwp_callFunc (by unfold entB; rw [Try.func50]; rfl)
theorem en56 {F : Fr} {h : Hp} {xs : Array Value} {K : Next → Hp → Prop} : dwp Try.prog F (callFunc 56 xs) h K = K (.enter 56 xs) h := dwp_callFunc (by unfold entB; rw [Try.func56]; rfl)
theorem re56 {F : Fr} {S : Hp} {xs : Array Value} : rval Try.prog F (callFunc 56 xs) S = some (.enter 56 xs) := rval_callFunc (by unfold entB; rw [Try.func56]; rfl)
theorem ni56 : Try.prog.inits.idxOf? 56 = none := by kernel_rfl
theorem en57 {F : Fr} {h : Hp} {xs : Array Value} {K : Next → Hp → Prop} : dwp Try.prog F (callFunc 57 xs) h K = K (.enter 57 xs) h := dwp_callFunc (by unfold entB; rw [Try.func57]; rfl)
theorem re57 {F : Fr} {S : Hp} {xs : Array Value} : rval Try.prog F (callFunc 57 xs) S = some (.enter 57 xs) := rval_callFunc (by unfold entB; rw [Try.func57]; rfl)
theorem en58 {F : Fr} {h : Hp} {xs : Array Value} {K : Next → Hp → Prop} : dwp Try.prog F (callFunc 58 xs) h K = K (.enter 58 xs) h := dwp_callFunc (by unfold entB; rw [Try.func58]; rfl)
theorem en59 {F : Fr} {h : Hp} {xs : Array Value} {K : Next → Hp → Prop} : dwp Try.prog F (callFunc 59 xs) h K = K (.enter 59 xs) h := dwp_callFunc (by unfold entB; rw [Try.func59]; rfl)
theorem en60 {F : Fr} {h : Hp} {xs : Array Value} {K : Next → Hp → Prop} : dwp Try.prog F (callFunc 60 xs) h K = K (.enter 60 xs) h := dwp_callFunc (by unfold entB; rw [Try.func60]; rfl)
theorem en61 {F : Fr} {h : Hp} {xs : Array Value} {K : Next → Hp → Prop} : dwp Try.prog F (callFunc 61 xs) h K = K (.enter 61 xs) h := dwp_callFunc (by unfold entB; rw [Try.func61]; rfl)
theorem en62 {F : Fr} {h : Hp} {xs : Array Value} {K : Next → Hp → Prop} : dwp Try.prog F (callFunc 62 xs) h K = K (.enter 62 xs) h := dwp_callFunc (by unfold entB; rw [Try.func62]; rfl)
theorem en63 {F : Fr} {h : Hp} {xs : Array Value} {K : Next → Hp → Prop} : dwp Try.prog F (callFunc 63 xs) h K = K (.enter 63 xs) h := dwp_callFunc (by unfold entB; rw [Try.func63]; rfl)
theorem en64 {F : Fr} {h : Hp} {xs : Array Value} {K : Next → Hp → Prop} : dwp Try.prog F (callFunc 64 xs) h K = K (.enter 64 xs) h := dwp_callFunc (by unfold entB; rw [Try.func64]; rfl)
theorem re64 {F : Fr} {S : Hp} {xs : Array Value} : rval Try.prog F (callFunc 64 xs) S = some (.enter 64 xs) := rval_callFunc (by unfold entB; rw [Try.func64]; rfl)
theorem ni64 : Try.prog.inits.idxOf? 64 = none := by kernel_rfl
theorem en65 {F : Fr} {h : Hp} {xs : Array Value} {K : Next → Hp → Prop} : dwp Try.prog F (callFunc 65 xs) h K = K (.enter 65 xs) h := dwp_callFunc (by unfold entB; rw [Try.func65]; rfl)
theorem en66 {F : Fr} {h : Hp} {xs : Array Value} {K : Next → Hp → Prop} : dwp Try.prog F (callFunc 66 xs) h K = K (.enter 66 xs) h := dwp_callFunc (by unfold entB; rw [Try.func66]; rfl)
theorem re66 {F : Fr} {S : Hp} {xs : Array Value} : rval Try.prog F (callFunc 66 xs) S = some (.enter 66 xs) := rval_callFunc (by unfold entB; rw [Try.func66]; rfl)
theorem ni66 : Try.prog.inits.idxOf? 66 = none := by kernel_rfl
theorem en67 {F : Fr} {h : Hp} {xs : Array Value} {K : Next → Hp → Prop} : dwp Try.prog F (callFunc 67 xs) h K = K (.enter 67 xs) h := dwp_callFunc (by unfold entB; rw [Try.func67]; rfl)
theorem re67 {F : Fr} {S : Hp} {xs : Array Value} : rval Try.prog F (callFunc 67 xs) S = some (.enter 67 xs) := rval_callFunc (by unfold entB; rw [Try.func67]; rfl)
theorem ni67 : Try.prog.inits.idxOf? 67 = none := by kernel_rfl
theorem en68 {F : Fr} {h : Hp} {xs : Array Value} {K : Next → Hp → Prop} : dwp Try.prog F (callFunc 68 xs) h K = K (.enter 68 xs) h := dwp_callFunc (by unfold entB; rw [Try.func68]; rfl)
theorem re68 {F : Fr} {S : Hp} {xs : Array Value} : rval Try.prog F (callFunc 68 xs) S = some (.enter 68 xs) := rval_callFunc (by unfold entB; rw [Try.func68]; rfl)
theorem ni68 : Try.prog.inits.idxOf? 68 = none := by kernel_rfl
theorem en71 {F : Fr} {h : Hp} {xs : Array Value} {K : Next → Hp → Prop} : dwp Try.prog F (callFunc 71 xs) h K = K (.enter 71 xs) h := dwp_callFunc (by unfold entB; rw [Try.func71]; rfl)
theorem en75 {F : Fr} {h : Hp} {xs : Array Value} {K : Next → Hp → Prop} : dwp Try.prog F (callFunc 75 xs) h K = K (.enter 75 xs) h := dwp_callFunc (by unfold entB; rw [Try.func75]; rfl)
theorem en76 {F : Fr} {h : Hp} {xs : Array Value} {K : Next → Hp → Prop} : dwp Try.prog F (callFunc 76 xs) h K = K (.enter 76 xs) h := dwp_callFunc (by unfold entB; rw [Try.func76]; rfl)
theorem en77 {F : Fr} {h : Hp} {xs : Array Value} {K : Next → Hp → Prop} : dwp Try.prog F (callFunc 77 xs) h K = K (.enter 77 xs) h := dwp_callFunc (by unfold entB; rw [Try.func77]; rfl)
theorem en78 {F : Fr} {h : Hp} {xs : Array Value} {K : Next → Hp → Prop} : dwp Try.prog F (callFunc 78 xs) h K = K (.enter 78 xs) h := dwp_callFunc (by unfold entB; rw [Try.func78]; rfl)
theorem en79 {F : Fr} {h : Hp} {xs : Array Value} {K : Next → Hp → Prop} : dwp Try.prog F (callFunc 79 xs) h K = K (.enter 79 xs) h := dwp_callFunc (by unfold entB; rw [Try.func79]; rfl)
theorem re80 {F : Fr} {S : Hp} {xs : Array Value} : rval Try.prog F (callFunc 80 xs) S = some (.enter 80 xs) := rval_callFunc (by unfold entB; rw [Try.func80]; rfl)
theorem ni80 : Try.prog.inits.idxOf? 80 = none := by kernel_rfl
theorem en81 {F : Fr} {h : Hp} {xs : Array Value} {K : Next → Hp → Prop} : dwp Try.prog F (callFunc 81 xs) h K = K (.enter 81 xs) h := dwp_callFunc (by unfold entB; rw [Try.func81]; rfl)
theorem re81 {F : Fr} {S : Hp} {xs : Array Value} : rval Try.prog F (callFunc 81 xs) S = some (.enter 81 xs) := rval_callFunc (by unfold entB; rw [Try.func81]; rfl)
theorem ni81 : Try.prog.inits.idxOf? 81 = none := by kernel_rfl
theorem en82 {F : Fr} {h : Hp} {xs : Array Value} {K : Next → Hp → Prop} : dwp Try.prog F (callFunc 82 xs) h K = K (.enter 82 xs) h := dwp_callFunc (by unfold entB; rw [Try.func82]; rfl)
theorem re82 {F : Fr} {S : Hp} {xs : Array Value} : rval Try.prog F (callFunc 82 xs) S = some (.enter 82 xs) := rval_callFunc (by unfold entB; rw [Try.func82]; rfl)
theorem ni82 : Try.prog.inits.idxOf? 82 = none := by kernel_rfl
theorem en87 {F : Fr} {h : Hp} {xs : Array Value} {K : Next → Hp → Prop} : dwp Try.prog F (callFunc 87 xs) h K = K (.enter 87 xs) h := dwp_callFunc (by unfold entB; rw [Try.func87]; rfl)
theorem en88 {F : Fr} {h : Hp} {xs : Array Value} {K : Next → Hp → Prop} : dwp Try.prog F (callFunc 88 xs) h K = K (.enter 88 xs) h := dwp_callFunc (by unfold entB; rw [Try.func88]; rfl)
theorem en90 {F : Fr} {h : Hp} {xs : Array Value} {K : Next → Hp → Prop} : dwp Try.prog F (callFunc 90 xs) h K = K (.enter 90 xs) h := dwp_callFunc (by unfold entB; rw [Try.func90]; rfl)
theorem en92 {F : Fr} {h : Hp} {xs : Array Value} {K : Next → Hp → Prop} : dwp Try.prog F (callFunc 92 xs) h K = K (.enter 92 xs) h := dwp_callFunc (by unfold entB; rw [Try.func92]; rfl)
theorem en93 {F : Fr} {h : Hp} {xs : Array Value} {K : Next → Hp → Prop} : dwp Try.prog F (callFunc 93 xs) h K = K (.enter 93 xs) h := dwp_callFunc (by unfold entB; rw [Try.func93]; rfl)
theorem re94 {F : Fr} {S : Hp} {xs : Array Value} : rval Try.prog F (callFunc 94 xs) S = some (.enter 94 xs) := rval_callFunc (by unfold entB; rw [Try.func94]; rfl)
theorem ni94 : Try.prog.inits.idxOf? 94 = none := by kernel_rfl
theorem en96 {F : Fr} {h : Hp} {xs : Array Value} {K : Next → Hp → Prop} : dwp Try.prog F (callFunc 96 xs) h K = K (.enter 96 xs) h := dwp_callFunc (by unfold entB; rw [Try.func96]; rfl)
theorem en98 {F : Fr} {h : Hp} {xs : Array Value} {K : Next → Hp → Prop} : dwp Try.prog F (callFunc 98 xs) h K = K (.enter 98 xs) h := dwp_callFunc (by unfold entB; rw [Try.func98]; rfl)
theorem en100 {F : Fr} {h : Hp} {xs : Array Value} {K : Next → Hp → Prop} : dwp Try.prog F (callFunc 100 xs) h K = K (.enter 100 xs) h := dwp_callFunc (by unfold entB; rw [Try.func100]; rfl)
theorem en101 {F : Fr} {h : Hp} {xs : Array Value} {K : Next → Hp → Prop} : dwp Try.prog F (callFunc 101 xs) h K = K (.enter 101 xs) h := dwp_callFunc (by unfold entB; rw [Try.func101]; rfl)
theorem en102 {F : Fr} {h : Hp} {xs : Array Value} {K : Next → Hp → Prop} : dwp Try.prog F (callFunc 102 xs) h K = K (.enter 102 xs) h := dwp_callFunc (by unfold entB; rw [Try.func102]; rfl)
theorem en103 {F : Fr} {h : Hp} {xs : Array Value} {K : Next → Hp → Prop} : dwp Try.prog F (callFunc 103 xs) h K = K (.enter 103 xs) h := dwp_callFunc (by unfold entB; rw [Try.func103]; rfl)
theorem en104 {F : Fr} {h : Hp} {xs : Array Value} {K : Next → Hp → Prop} : dwp Try.prog F (callFunc 104 xs) h K = K (.enter 104 xs) h := dwp_callFunc (by unfold entB; rw [Try.func104]; rfl)
theorem en106 {F : Fr} {h : Hp} {xs : Array Value} {K : Next → Hp → Prop} : dwp Try.prog F (callFunc 106 xs) h K = K (.enter 106 xs) h := dwp_callFunc (by unfold entB; rw [Try.func106]; rfl)
theorem re107 {F : Fr} {S : Hp} {xs : Array Value} : rval Try.prog F (callFunc 107 xs) S = some (.enter 107 xs) := rval_callFunc (by unfold entB; rw [Try.func107]; rfl)
theorem ni107 : Try.prog.inits.idxOf? 107 = none := by kernel_rfl
theorem en108 {F : Fr} {h : Hp} {xs : Array Value} {K : Next → Hp → Prop} : dwp Try.prog F (callFunc 108 xs) h K = K (.enter 108 xs) h := dwp_callFunc (by unfold entB; rw [Try.func108]; rfl)
theorem dry_eql23 {a0 b0 a1 b1 : Int} : dry Try.prog (binOp .eql 23 (.agg #[.int .i64 a0, .int .i64 a1]) (.agg #[.int .i64 b0, .int .i64 b1])) = some (.bool ((a0 == b0) && ((a1 == b1) && true))) := dry_eqlS Try.underlying23 (by kernel_rfl) (eqF_int rfl Try.isAgg3 Try.underlying3 rfl rfl (eqF_int rfl Try.isAgg3 Try.underlying3 rfl rfl eqF_nil))
theorem rval_eql23 {F : Fr} {S : Hp} {a0 b0 a1 b1 : Int} : rval Try.prog F (binOp .eql 23 (.agg #[.int .i64 a0, .int .i64 a1]) (.agg #[.int .i64 b0, .int .i64 b1])) S = some (.bool ((a0 == b0) && ((a1 == b1) && true))) := dry_rval _ dry_eql23
theorem eg23 : Try.prog.eqGuardType Try.prog.depth 23 = false := by kernel_rfl
theorem dry_eql51 {a0 b0 a1 b1 : Int} : dry Try.prog (binOp .eql 51 (.agg #[.int .i64 a0, .int .i64 a1]) (.agg #[.int .i64 b0, .int .i64 b1])) = some (.bool ((a0 == b0) && ((a1 == b1) && true))) := dry_eqlS Try.underlying51 (by kernel_rfl) (eqF_int rfl Try.isAgg3 Try.underlying3 rfl rfl (eqF_int rfl Try.isAgg3 Try.underlying3 rfl rfl eqF_nil))
theorem rval_eql51 {F : Fr} {S : Hp} {a0 b0 a1 b1 : Int} : rval Try.prog F (binOp .eql 51 (.agg #[.int .i64 a0, .int .i64 a1]) (.agg #[.int .i64 b0, .int .i64 b1])) S = some (.bool ((a0 == b0) && ((a1 == b1) && true))) := dry_rval _ dry_eql51
theorem eg51 : Try.prog.eqGuardType Try.prog.depth 51 = false := by kernel_rfl
theorem dry_neq23 {a0 b0 a1 b1 : Int} : dry Try.prog (binOp .neq 23 (.agg #[.int .i64 a0, .int .i64 a1]) (.agg #[.int .i64 b0, .int .i64 b1])) = some (.bool (!((a0 == b0) && ((a1 == b1) && true)))) := dry_neqS Try.underlying23 (by kernel_rfl) (eqF_int rfl Try.isAgg3 Try.underlying3 rfl rfl (eqF_int rfl Try.isAgg3 Try.underlying3 rfl rfl eqF_nil))
theorem dwp_neq23 {F : Fr} {h : Hp} {K : Value → Hp → Prop} {a0 b0 a1 b1 : Int} : dwp Try.prog F (binOp .neq 23 (.agg #[.int .i64 a0, .int .i64 a1]) (.agg #[.int .i64 b0, .int .i64 b1])) h K = K (.bool (!((a0 == b0) && ((a1 == b1) && true)))) h := dry_dwp _ dry_neq23
theorem rval_neq23 {F : Fr} {S : Hp} {a0 b0 a1 b1 : Int} : rval Try.prog F (binOp .neq 23 (.agg #[.int .i64 a0, .int .i64 a1]) (.agg #[.int .i64 b0, .int .i64 b1])) S = some (.bool (!((a0 == b0) && ((a1 == b1) && true)))) := dry_rval _ dry_neq23
theorem dwp_conv3_129 {F : Fr} {h : Hp} {K : Value → Hp → Prop} {k : IntKind} {n : Int} : dwp Try.prog F (convert 3 129 (.int k n)) h K = K (.int .u64 (IntKind.u64.wrap n)) h := dry_dwp _ (dry_convI Try.underlying3 Try.underlying129)
theorem dwp_conv5_3 {F : Fr} {h : Hp} {K : Value → Hp → Prop} {k : IntKind} {n : Int} : dwp Try.prog F (convert 5 3 (.int k n)) h K = K (.int .i64 (IntKind.i64.wrap n)) h := dry_dwp _ (dry_convI Try.underlying5 Try.underlying3)
theorem rval_conv5_3 {F : Fr} {S : Hp} {k : IntKind} {n : Int} : rval Try.prog F (convert 5 3 (.int k n)) S = some (.int .i64 (IntKind.i64.wrap n)) := dry_rval _ (dry_convI Try.underlying5 Try.underlying3)
theorem dwp_conv129_3 {F : Fr} {h : Hp} {K : Value → Hp → Prop} {k : IntKind} {n : Int} : dwp Try.prog F (convert 129 3 (.int k n)) h K = K (.int .i64 (IntKind.i64.wrap n)) h := dry_dwp _ (dry_convI Try.underlying129 Try.underlying3)
theorem mo : Try.prog.follows .mixedOrders = true := by kernel_rfl
end Go.Proofs.Ytlbpfmnobapidaa
