/-
  The types of the program, as the walk over a part of memory asks them. Conditions: none. Printed by facts.py (own program).
-/
import Derived.Test.YtlblahfndlgfmaaProg
import Derived.Test.YtlblahfndlgfmaaS15
namespace Go.Proofs.Ytlblahfndlgfmaa
open Go Go.SL Go.RowKit
set_option linter.unusedVariables false
theorem un0 {F : Fr} {h : Hp} {K : TypeDesc → Hp → Prop} : dwp Try.prog F (underlying 0) h K = K (Go.TypeDesc.tuple #[]) h := by rw [dwp_underlying, Try.underlying0]; rfl
theorem ru0 {F : Fr} {S : Hp} : rval Try.prog F (underlying 0) S = some (Go.TypeDesc.tuple #[]) := rval_un Try.underlying0
theorem sz0 {F : Fr} {h : Hp} {K : Nat → Hp → Prop} : dwp Try.prog F (sizeOf 0) h K = K 1 h := dwp_size_of Try.sizeOf0
theorem rs0 {F : Fr} {S : Hp} : rval Try.prog F (sizeOf 0) S = some 1 := rval_size Try.sizeOf0
theorem ag0 {F : Fr} {h : Hp} {K : Bool → Hp → Prop} : dwp Try.prog F (isAgg 0) h K = K false h := dwp_agg_of Try.isAgg0
theorem ra0 {F : Fr} {S : Hp} : rval Try.prog F (isAgg 0) S = some false := rval_agg Try.isAgg0
theorem ze0 {F : Fr} {h : Hp} {K : Value → Hp → Prop} : dwp Try.prog F (zeroValue 0) h K = K (Go.Value.tuple #[]) h := dwp_zero_of Try.zeroValue0
theorem rz0 {F : Fr} {S : Hp} : rval Try.prog F (zeroValue 0) S = some (Go.Value.tuple #[]) := rval_zero Try.zeroValue0
theorem un1 {F : Fr} {h : Hp} {K : TypeDesc → Hp → Prop} : dwp Try.prog F (underlying 1) h K = K (Go.TypeDesc.func #[] #[] false) h := by rw [dwp_underlying, Try.underlying1]; rfl
theorem ru1 {F : Fr} {S : Hp} : rval Try.prog F (underlying 1) S = some (Go.TypeDesc.func #[] #[] false) := rval_un Try.underlying1
theorem sz1 {F : Fr} {h : Hp} {K : Nat → Hp → Prop} : dwp Try.prog F (sizeOf 1) h K = K 1 h := dwp_size_of Try.sizeOf1
theorem rs1 {F : Fr} {S : Hp} : rval Try.prog F (sizeOf 1) S = some 1 := rval_size Try.sizeOf1
theorem ag1 {F : Fr} {h : Hp} {K : Bool → Hp → Prop} : dwp Try.prog F (isAgg 1) h K = K false h := dwp_agg_of Try.isAgg1
theorem ra1 {F : Fr} {S : Hp} : rval Try.prog F (isAgg 1) S = some false := rval_agg Try.isAgg1
theorem ze1 {F : Fr} {h : Hp} {K : Value → Hp → Prop} : dwp Try.prog F (zeroValue 1) h K = K Go.Value.nilFunc h := dwp_zero_of Try.zeroValue1
theorem rz1 {F : Fr} {S : Hp} : rval Try.prog F (zeroValue 1) S = some (Go.Value.nilFunc) := rval_zero Try.zeroValue1
theorem un2 {F : Fr} {h : Hp} {K : TypeDesc → Hp → Prop} : dwp Try.prog F (underlying 2) h K = K (Go.TypeDesc.int Go.IntKind.i64) h := by rw [dwp_underlying, Try.underlying2]; rfl
theorem ru2 {F : Fr} {S : Hp} : rval Try.prog F (underlying 2) S = some (Go.TypeDesc.int Go.IntKind.i64) := rval_un Try.underlying2
theorem sz2 {F : Fr} {h : Hp} {K : Nat → Hp → Prop} : dwp Try.prog F (sizeOf 2) h K = K 1 h := dwp_size_of Try.sizeOf2
theorem rs2 {F : Fr} {S : Hp} : rval Try.prog F (sizeOf 2) S = some 1 := rval_size Try.sizeOf2
theorem ag2 {F : Fr} {h : Hp} {K : Bool → Hp → Prop} : dwp Try.prog F (isAgg 2) h K = K false h := dwp_agg_of Try.isAgg2
theorem ra2 {F : Fr} {S : Hp} : rval Try.prog F (isAgg 2) S = some false := rval_agg Try.isAgg2
theorem ze2 {F : Fr} {h : Hp} {K : Value → Hp → Prop} : dwp Try.prog F (zeroValue 2) h K = K (Go.Value.int Go.IntKind.i64 0) h := dwp_zero_of Try.zeroValue2
theorem rz2 {F : Fr} {S : Hp} : rval Try.prog F (zeroValue 2) S = some (Go.Value.int Go.IntKind.i64 0) := rval_zero Try.zeroValue2
theorem un3 {F : Fr} {h : Hp} {K : TypeDesc → Hp → Prop} : dwp Try.prog F (underlying 3) h K = K (Go.TypeDesc.int Go.IntKind.i64) h := by rw [dwp_underlying, Try.underlying3]; rfl
theorem ru3 {F : Fr} {S : Hp} : rval Try.prog F (underlying 3) S = some (Go.TypeDesc.int Go.IntKind.i64) := rval_un Try.underlying3
theorem sz3 {F : Fr} {h : Hp} {K : Nat → Hp → Prop} : dwp Try.prog F (sizeOf 3) h K = K 1 h := dwp_size_of Try.sizeOf3
theorem rs3 {F : Fr} {S : Hp} : rval Try.prog F (sizeOf 3) S = some 1 := rval_size Try.sizeOf3
theorem ag3 {F : Fr} {h : Hp} {K : Bool → Hp → Prop} : dwp Try.prog F (isAgg 3) h K = K false h := dwp_agg_of Try.isAgg3
theorem ra3 {F : Fr} {S : Hp} : rval Try.prog F (isAgg 3) S = some false := rval_agg Try.isAgg3
theorem ze3 {F : Fr} {h : Hp} {K : Value → Hp → Prop} : dwp Try.prog F (zeroValue 3) h K = K (Go.Value.int Go.IntKind.i64 0) h := dwp_zero_of Try.zeroValue3
theorem rz3 {F : Fr} {S : Hp} : rval Try.prog F (zeroValue 3) S = some (Go.Value.int Go.IntKind.i64 0) := rval_zero Try.zeroValue3
theorem un4 {F : Fr} {h : Hp} {K : TypeDesc → Hp → Prop} : dwp Try.prog F (underlying 4) h K = K (Go.TypeDesc.bool) h := by rw [dwp_underlying, Try.underlying4]; rfl
theorem ru4 {F : Fr} {S : Hp} : rval Try.prog F (underlying 4) S = some (Go.TypeDesc.bool) := rval_un Try.underlying4
theorem sz4 {F : Fr} {h : Hp} {K : Nat → Hp → Prop} : dwp Try.prog F (sizeOf 4) h K = K 1 h := dwp_size_of Try.sizeOf4
theorem rs4 {F : Fr} {S : Hp} : rval Try.prog F (sizeOf 4) S = some 1 := rval_size Try.sizeOf4
theorem ag4 {F : Fr} {h : Hp} {K : Bool → Hp → Prop} : dwp Try.prog F (isAgg 4) h K = K false h := dwp_agg_of Try.isAgg4
theorem ra4 {F : Fr} {S : Hp} : rval Try.prog F (isAgg 4) S = some false := rval_agg Try.isAgg4
theorem ze4 {F : Fr} {h : Hp} {K : Value → Hp → Prop} : dwp Try.prog F (zeroValue 4) h K = K (Go.Value.bool false) h := dwp_zero_of Try.zeroValue4
theorem rz4 {F : Fr} {S : Hp} : rval Try.prog F (zeroValue 4) S = some (Go.Value.bool false) := rval_zero Try.zeroValue4
theorem un5 {F : Fr} {h : Hp} {K : TypeDesc → Hp → Prop} : dwp Try.prog F (underlying 5) h K = K (Go.TypeDesc.int Go.IntKind.u8) h := by rw [dwp_underlying, Try.underlying5]; rfl
theorem ru5 {F : Fr} {S : Hp} : rval Try.prog F (underlying 5) S = some (Go.TypeDesc.int Go.IntKind.u8) := rval_un Try.underlying5
theorem sz5 {F : Fr} {h : Hp} {K : Nat → Hp → Prop} : dwp Try.prog F (sizeOf 5) h K = K 1 h := dwp_size_of Try.sizeOf5
theorem rs5 {F : Fr} {S : Hp} : rval Try.prog F (sizeOf 5) S = some 1 := rval_size Try.sizeOf5
theorem ag5 {F : Fr} {h : Hp} {K : Bool → Hp → Prop} : dwp Try.prog F (isAgg 5) h K = K false h := dwp_agg_of Try.isAgg5
theorem ra5 {F : Fr} {S : Hp} : rval Try.prog F (isAgg 5) S = some false := rval_agg Try.isAgg5
theorem ze5 {F : Fr} {h : Hp} {K : Value → Hp → Prop} : dwp Try.prog F (zeroValue 5) h K = K (Go.Value.int Go.IntKind.u8 0) h := dwp_zero_of Try.zeroValue5
theorem rz5 {F : Fr} {S : Hp} : rval Try.prog F (zeroValue 5) S = some (Go.Value.int Go.IntKind.u8 0) := rval_zero Try.zeroValue5
theorem un6 {F : Fr} {h : Hp} {K : TypeDesc → Hp → Prop} : dwp Try.prog F (underlying 6) h K = K (Go.TypeDesc.int Go.IntKind.u8) h := by rw [dwp_underlying, Try.underlying6]; rfl
theorem ru6 {F : Fr} {S : Hp} : rval Try.prog F (underlying 6) S = some (Go.TypeDesc.int Go.IntKind.u8) := rval_un Try.underlying6
theorem sz6 {F : Fr} {h : Hp} {K : Nat → Hp → Prop} : dwp Try.prog F (sizeOf 6) h K = K 1 h := dwp_size_of Try.sizeOf6
theorem rs6 {F : Fr} {S : Hp} : rval Try.prog F (sizeOf 6) S = some 1 := rval_size Try.sizeOf6
theorem ag6 {F : Fr} {h : Hp} {K : Bool → Hp → Prop} : dwp Try.prog F (isAgg 6) h K = K false h := dwp_agg_of Try.isAgg6
theorem ra6 {F : Fr} {S : Hp} : rval Try.prog F (isAgg 6) S = some false := rval_agg Try.isAgg6
theorem ze6 {F : Fr} {h : Hp} {K : Value → Hp → Prop} : dwp Try.prog F (zeroValue 6) h K = K (Go.Value.int Go.IntKind.u8 0) h := dwp_zero_of Try.zeroValue6
theorem rz6 {F : Fr} {S : Hp} : rval Try.prog F (zeroValue 6) S = some (Go.Value.int Go.IntKind.u8 0) := rval_zero Try.zeroValue6
theorem un7 {F : Fr} {h : Hp} {K : TypeDesc → Hp → Prop} : dwp Try.prog F (underlying 7) h K = K (Go.TypeDesc.struct #[{ name := "x", type := 2, offset := 0, embedded := false, tag := "", pkgPath := "runtime", byteOffset := 0 }, { name := "y", type := 3, offset := 1, embedded := false, tag := "", pkgPath := "runtime", byteOffset := 8 }, { name := "signed", type := 4, offset := 2, embedded := false, tag := "", pkgPath := "runtime", byteOffset := 16 }, { name := "code", type := 6, offset := 3, embedded := false, tag := "", pkgPath := "runtime", byteOffset := 17 }]) h := by rw [dwp_underlying, Try.underlying7]; rfl
theorem ru7 {F : Fr} {S : Hp} : rval Try.prog F (underlying 7) S = some (Go.TypeDesc.struct #[{ name := "x", type := 2, offset := 0, embedded := false, tag := "", pkgPath := "runtime", byteOffset := 0 }, { name := "y", type := 3, offset := 1, embedded := false, tag := "", pkgPath := "runtime", byteOffset := 8 }, { name := "signed", type := 4, offset := 2, embedded := false, tag := "", pkgPath := "runtime", byteOffset := 16 }, { name := "code", type := 6, offset := 3, embedded := false, tag := "", pkgPath := "runtime", byteOffset := 17 }]) := rval_un Try.underlying7
theorem sz7 {F : Fr} {h : Hp} {K : Nat → Hp → Prop} : dwp Try.prog F (sizeOf 7) h K = K 4 h := dwp_size_of Try.sizeOf7
theorem rs7 {F : Fr} {S : Hp} : rval Try.prog F (sizeOf 7) S = some 4 := rval_size Try.sizeOf7
theorem ag7 {F : Fr} {h : Hp} {K : Bool → Hp → Prop} : dwp Try.prog F (isAgg 7) h K = K true h := dwp_agg_of Try.isAgg7
theorem ra7 {F : Fr} {S : Hp} : rval Try.prog F (isAgg 7) S = some true := rval_agg Try.isAgg7
theorem ze7 {F : Fr} {h : Hp} {K : Value → Hp → Prop} : dwp Try.prog F (zeroValue 7) h K = K (Go.Value.agg #[Go.Value.int Go.IntKind.i64 0, Go.Value.int Go.IntKind.i64 0, Go.Value.bool false, Go.Value.int Go.IntKind.u8 0]) h := dwp_zero_of Try.zeroValue7
theorem rz7 {F : Fr} {S : Hp} : rval Try.prog F (zeroValue 7) S = some (Go.Value.agg #[Go.Value.int Go.IntKind.i64 0, Go.Value.int Go.IntKind.i64 0, Go.Value.bool false, Go.Value.int Go.IntKind.u8 0]) := rval_zero Try.zeroValue7
theorem un8 {F : Fr} {h : Hp} {K : TypeDesc → Hp → Prop} : dwp Try.prog F (underlying 8) h K = K (Go.TypeDesc.struct #[{ name := "x", type := 2, offset := 0, embedded := false, tag := "", pkgPath := "runtime", byteOffset := 0 }, { name := "y", type := 3, offset := 1, embedded := false, tag := "", pkgPath := "runtime", byteOffset := 8 }, { name := "signed", type := 4, offset := 2, embedded := false, tag := "", pkgPath := "runtime", byteOffset := 16 }, { name := "code", type := 6, offset := 3, embedded := false, tag := "", pkgPath := "runtime", byteOffset := 17 }]) h := by rw [dwp_underlying, Try.underlying8]; rfl
theorem ru8 {F : Fr} {S : Hp} : rval Try.prog F (underlying 8) S = some (Go.TypeDesc.struct #[{ name := "x", type := 2, offset := 0, embedded := false, tag := "", pkgPath := "runtime", byteOffset := 0 }, { name := "y", type := 3, offset := 1, embedded := false, tag := "", pkgPath := "runtime", byteOffset := 8 }, { name := "signed", type := 4, offset := 2, embedded := false, tag := "", pkgPath := "runtime", byteOffset := 16 }, { name := "code", type := 6, offset := 3, embedded := false, tag := "", pkgPath := "runtime", byteOffset := 17 }]) := rval_un Try.underlying8
theorem sz8 {F : Fr} {h : Hp} {K : Nat → Hp → Prop} : dwp Try.prog F (sizeOf 8) h K = K 4 h := dwp_size_of Try.sizeOf8
theorem rs8 {F : Fr} {S : Hp} : rval Try.prog F (sizeOf 8) S = some 4 := rval_size Try.sizeOf8
theorem ag8 {F : Fr} {h : Hp} {K : Bool → Hp → Prop} : dwp Try.prog F (isAgg 8) h K = K true h := dwp_agg_of Try.isAgg8
theorem ra8 {F : Fr} {S : Hp} : rval Try.prog F (isAgg 8) S = some true := rval_agg Try.isAgg8
theorem ze8 {F : Fr} {h : Hp} {K : Value → Hp → Prop} : dwp Try.prog F (zeroValue 8) h K = K (Go.Value.agg #[Go.Value.int Go.IntKind.i64 0, Go.Value.int Go.IntKind.i64 0, Go.Value.bool false, Go.Value.int Go.IntKind.u8 0]) h := dwp_zero_of Try.zeroValue8
theorem rz8 {F : Fr} {S : Hp} : rval Try.prog F (zeroValue 8) S = some (Go.Value.agg #[Go.Value.int Go.IntKind.i64 0, Go.Value.int Go.IntKind.i64 0, Go.Value.bool false, Go.Value.int Go.IntKind.u8 0]) := rval_zero Try.zeroValue8
theorem un9 {F : Fr} {h : Hp} {K : TypeDesc → Hp → Prop} : dwp Try.prog F (underlying 9) h K = K (Go.TypeDesc.string) h := by rw [dwp_underlying, Try.underlying9]; rfl
theorem ru9 {F : Fr} {S : Hp} : rval Try.prog F (underlying 9) S = some (Go.TypeDesc.string) := rval_un Try.underlying9
theorem sz9 {F : Fr} {h : Hp} {K : Nat → Hp → Prop} : dwp Try.prog F (sizeOf 9) h K = K 1 h := dwp_size_of Try.sizeOf9
theorem rs9 {F : Fr} {S : Hp} : rval Try.prog F (sizeOf 9) S = some 1 := rval_size Try.sizeOf9
theorem ag9 {F : Fr} {h : Hp} {K : Bool → Hp → Prop} : dwp Try.prog F (isAgg 9) h K = K false h := dwp_agg_of Try.isAgg9
theorem ra9 {F : Fr} {S : Hp} : rval Try.prog F (isAgg 9) S = some false := rval_agg Try.isAgg9
theorem ze9 {F : Fr} {h : Hp} {K : Value → Hp → Prop} : dwp Try.prog F (zeroValue 9) h K = K (Go.Value.string { data := #[] }) h := dwp_zero_of Try.zeroValue9
theorem rz9 {F : Fr} {S : Hp} : rval Try.prog F (zeroValue 9) S = some (Go.Value.string { data := #[] }) := rval_zero Try.zeroValue9
theorem un12 {F : Fr} {h : Hp} {K : TypeDesc → Hp → Prop} : dwp Try.prog F (underlying 12) h K = K (Go.TypeDesc.int Go.IntKind.u64) h := by rw [dwp_underlying, Try.underlying12]; rfl
theorem ru12 {F : Fr} {S : Hp} : rval Try.prog F (underlying 12) S = some (Go.TypeDesc.int Go.IntKind.u64) := rval_un Try.underlying12
theorem sz12 {F : Fr} {h : Hp} {K : Nat → Hp → Prop} : dwp Try.prog F (sizeOf 12) h K = K 1 h := dwp_size_of Try.sizeOf12
theorem rs12 {F : Fr} {S : Hp} : rval Try.prog F (sizeOf 12) S = some 1 := rval_size Try.sizeOf12
theorem ag12 {F : Fr} {h : Hp} {K : Bool → Hp → Prop} : dwp Try.prog F (isAgg 12) h K = K false h := dwp_agg_of Try.isAgg12
theorem ra12 {F : Fr} {S : Hp} : rval Try.prog F (isAgg 12) S = some false := rval_agg Try.isAgg12
theorem ze12 {F : Fr} {h : Hp} {K : Value → Hp → Prop} : dwp Try.prog F (zeroValue 12) h K = K (Go.Value.int Go.IntKind.u64 0) h := dwp_zero_of Try.zeroValue12
theorem rz12 {F : Fr} {S : Hp} : rval Try.prog F (zeroValue 12) S = some (Go.Value.int Go.IntKind.u64 0) := rval_zero Try.zeroValue12
theorem un16 {F : Fr} {h : Hp} {K : TypeDesc → Hp → Prop} : dwp Try.prog F (underlying 16) h K = K (Go.TypeDesc.pointer 149) h := by rw [dwp_underlying, Try.underlying16]; rfl
theorem ru16 {F : Fr} {S : Hp} : rval Try.prog F (underlying 16) S = some (Go.TypeDesc.pointer 149) := rval_un Try.underlying16
theorem sz16 {F : Fr} {h : Hp} {K : Nat → Hp → Prop} : dwp Try.prog F (sizeOf 16) h K = K 1 h := dwp_size_of Try.sizeOf16
theorem rs16 {F : Fr} {S : Hp} : rval Try.prog F (sizeOf 16) S = some 1 := rval_size Try.sizeOf16
theorem ag16 {F : Fr} {h : Hp} {K : Bool → Hp → Prop} : dwp Try.prog F (isAgg 16) h K = K false h := dwp_agg_of Try.isAgg16
theorem ra16 {F : Fr} {S : Hp} : rval Try.prog F (isAgg 16) S = some false := rval_agg Try.isAgg16
theorem ze16 {F : Fr} {h : Hp} {K : Value → Hp → Prop} : dwp Try.prog F (zeroValue 16) h K = K (Go.Value.pointer none) h := dwp_zero_of Try.zeroValue16
theorem rz16 {F : Fr} {S : Hp} : rval Try.prog F (zeroValue 16) S = some (Go.Value.pointer none) := rval_zero Try.zeroValue16
theorem un20 {F : Fr} {h : Hp} {K : TypeDesc → Hp → Prop} : dwp Try.prog F (underlying 20) h K = K (Go.TypeDesc.interface #[]) h := by rw [dwp_underlying, Try.underlying20]; rfl
theorem ru20 {F : Fr} {S : Hp} : rval Try.prog F (underlying 20) S = some (Go.TypeDesc.interface #[]) := rval_un Try.underlying20
theorem sz20 {F : Fr} {h : Hp} {K : Nat → Hp → Prop} : dwp Try.prog F (sizeOf 20) h K = K 1 h := dwp_size_of Try.sizeOf20
theorem rs20 {F : Fr} {S : Hp} : rval Try.prog F (sizeOf 20) S = some 1 := rval_size Try.sizeOf20
theorem ag20 {F : Fr} {h : Hp} {K : Bool → Hp → Prop} : dwp Try.prog F (isAgg 20) h K = K false h := dwp_agg_of Try.isAgg20
theorem ra20 {F : Fr} {S : Hp} : rval Try.prog F (isAgg 20) S = some false := rval_agg Try.isAgg20
theorem ze20 {F : Fr} {h : Hp} {K : Value → Hp → Prop} : dwp Try.prog F (zeroValue 20) h K = K Go.Value.nilIface h := dwp_zero_of Try.zeroValue20
theorem rz20 {F : Fr} {S : Hp} : rval Try.prog F (zeroValue 20) S = some (Go.Value.nilIface) := rval_zero Try.zeroValue20
theorem un22 {F : Fr} {h : Hp} {K : TypeDesc → Hp → Prop} : dwp Try.prog F (underlying 22) h K = K (Go.TypeDesc.array 4 5) h := by rw [dwp_underlying, Try.underlying22]; rfl
theorem ru22 {F : Fr} {S : Hp} : rval Try.prog F (underlying 22) S = some (Go.TypeDesc.array 4 5) := rval_un Try.underlying22
theorem ix22 {F : Fr} {h : Hp} {a : Addr} {k : IntKind} {i : Int} {K : Value → Hp → Prop} (h1 : 0 ≤ i) (h2 : i < ((4 : Nat) : Int)) : dwp Try.prog F (Instr.indexAt 22 (.pointer (some a)) (.int k i)) h K = K (.pointer (some (a.add (i.toNat * 1)))) h := dwp_ixA Try.underlying22 Try.sizeOf5 h1 h2
theorem rx22 {F : Fr} {S : Hp} {a : Addr} {k : IntKind} {i : Int} (h1 : 0 ≤ i) (h2 : i < ((4 : Nat) : Int)) : rval Try.prog F (Instr.indexAt 22 (.pointer (some a)) (.int k i)) S = some (.pointer (some (a.add (i.toNat * 1)))) := rval_ixA Try.underlying22 Try.sizeOf5 h1 h2
theorem sz22 {F : Fr} {h : Hp} {K : Nat → Hp → Prop} : dwp Try.prog F (sizeOf 22) h K = K 4 h := dwp_size_of Try.sizeOf22
theorem rs22 {F : Fr} {S : Hp} : rval Try.prog F (sizeOf 22) S = some 4 := rval_size Try.sizeOf22
theorem ag22 {F : Fr} {h : Hp} {K : Bool → Hp → Prop} : dwp Try.prog F (isAgg 22) h K = K true h := dwp_agg_of Try.isAgg22
theorem ra22 {F : Fr} {S : Hp} : rval Try.prog F (isAgg 22) S = some true := rval_agg Try.isAgg22
theorem ze22 {F : Fr} {h : Hp} {K : Value → Hp → Prop} : dwp Try.prog F (zeroValue 22) h K = K (Go.Value.agg #[Go.Value.int Go.IntKind.u8 0, Go.Value.int Go.IntKind.u8 0, Go.Value.int Go.IntKind.u8 0, Go.Value.int Go.IntKind.u8 0]) h := dwp_zero_of Try.zeroValue22
theorem rz22 {F : Fr} {S : Hp} : rval Try.prog F (zeroValue 22) S = some (Go.Value.agg #[Go.Value.int Go.IntKind.u8 0, Go.Value.int Go.IntKind.u8 0, Go.Value.int Go.IntKind.u8 0, Go.Value.int Go.IntKind.u8 0]) := rval_zero Try.zeroValue22
theorem un24 {F : Fr} {h : Hp} {K : TypeDesc → Hp → Prop} : dwp Try.prog F (underlying 24) h K = K (Go.TypeDesc.int Go.IntKind.u16) h := by rw [dwp_underlying, Try.underlying24]; rfl
theorem ru24 {F : Fr} {S : Hp} : rval Try.prog F (underlying 24) S = some (Go.TypeDesc.int Go.IntKind.u16) := rval_un Try.underlying24
theorem sz24 {F : Fr} {h : Hp} {K : Nat → Hp → Prop} : dwp Try.prog F (sizeOf 24) h K = K 1 h := dwp_size_of Try.sizeOf24
theorem rs24 {F : Fr} {S : Hp} : rval Try.prog F (sizeOf 24) S = some 1 := rval_size Try.sizeOf24
theorem ag24 {F : Fr} {h : Hp} {K : Bool → Hp → Prop} : dwp Try.prog F (isAgg 24) h K = K false h := dwp_agg_of Try.isAgg24
theorem ra24 {F : Fr} {S : Hp} : rval Try.prog F (isAgg 24) S = some false := rval_agg Try.isAgg24
theorem ze24 {F : Fr} {h : Hp} {K : Value → Hp → Prop} : dwp Try.prog F (zeroValue 24) h K = K (Go.Value.int Go.IntKind.u16 0) h := dwp_zero_of Try.zeroValue24
theorem rz24 {F : Fr} {S : Hp} : rval Try.prog F (zeroValue 24) S = some (Go.Value.int Go.IntKind.u16 0) := rval_zero Try.zeroValue24
theorem un26 {F : Fr} {h : Hp} {K : TypeDesc → Hp → Prop} : dwp Try.prog F (underlying 26) h K = K (Go.TypeDesc.struct #[{ name := "Low", type := 3, offset := 0, embedded := false, tag := "", pkgPath := "", byteOffset := 0 }, { name := "High", type := 3, offset := 1, embedded := false, tag := "", pkgPath := "", byteOffset := 8 }]) h := by rw [dwp_underlying, Try.underlying26]; rfl
theorem ru26 {F : Fr} {S : Hp} : rval Try.prog F (underlying 26) S = some (Go.TypeDesc.struct #[{ name := "Low", type := 3, offset := 0, embedded := false, tag := "", pkgPath := "", byteOffset := 0 }, { name := "High", type := 3, offset := 1, embedded := false, tag := "", pkgPath := "", byteOffset := 8 }]) := rval_un Try.underlying26
theorem sz26 {F : Fr} {h : Hp} {K : Nat → Hp → Prop} : dwp Try.prog F (sizeOf 26) h K = K 2 h := dwp_size_of Try.sizeOf26
theorem rs26 {F : Fr} {S : Hp} : rval Try.prog F (sizeOf 26) S = some 2 := rval_size Try.sizeOf26
theorem ag26 {F : Fr} {h : Hp} {K : Bool → Hp → Prop} : dwp Try.prog F (isAgg 26) h K = K true h := dwp_agg_of Try.isAgg26
theorem ra26 {F : Fr} {S : Hp} : rval Try.prog F (isAgg 26) S = some true := rval_agg Try.isAgg26
theorem ze26 {F : Fr} {h : Hp} {K : Value → Hp → Prop} : dwp Try.prog F (zeroValue 26) h K = K (Go.Value.agg #[Go.Value.int Go.IntKind.i64 0, Go.Value.int Go.IntKind.i64 0]) h := dwp_zero_of Try.zeroValue26
theorem rz26 {F : Fr} {S : Hp} : rval Try.prog F (zeroValue 26) S = some (Go.Value.agg #[Go.Value.int Go.IntKind.i64 0, Go.Value.int Go.IntKind.i64 0]) := rval_zero Try.zeroValue26
theorem un28 {F : Fr} {h : Hp} {K : TypeDesc → Hp → Prop} : dwp Try.prog F (underlying 28) h K = K (Go.TypeDesc.struct #[{ name := "Lead", type := 3, offset := 0, embedded := false, tag := "", pkgPath := "", byteOffset := 0 }, { name := "Thread", type := 3, offset := 1, embedded := false, tag := "", pkgPath := "", byteOffset := 8 }, { name := "Head", type := 3, offset := 2, embedded := false, tag := "", pkgPath := "", byteOffset := 16 }, { name := "OnThread", type := 26, offset := 3, embedded := false, tag := "", pkgPath := "", byteOffset := 24 }, { name := "OnHead", type := 26, offset := 5, embedded := false, tag := "", pkgPath := "", byteOffset := 40 }, { name := "Stiff", type := 26, offset := 7, embedded := false, tag := "", pkgPath := "", byteOffset := 56 }, { name := "Spring", type := 26, offset := 9, embedded := false, tag := "", pkgPath := "", byteOffset := 72 }, { name := "Yield", type := 26, offset := 11, embedded := false, tag := "", pkgPath := "", byteOffset := 88 }]) h := by rw [dwp_underlying, Try.underlying28]; rfl
theorem ru28 {F : Fr} {S : Hp} : rval Try.prog F (underlying 28) S = some (Go.TypeDesc.struct #[{ name := "Lead", type := 3, offset := 0, embedded := false, tag := "", pkgPath := "", byteOffset := 0 }, { name := "Thread", type := 3, offset := 1, embedded := false, tag := "", pkgPath := "", byteOffset := 8 }, { name := "Head", type := 3, offset := 2, embedded := false, tag := "", pkgPath := "", byteOffset := 16 }, { name := "OnThread", type := 26, offset := 3, embedded := false, tag := "", pkgPath := "", byteOffset := 24 }, { name := "OnHead", type := 26, offset := 5, embedded := false, tag := "", pkgPath := "", byteOffset := 40 }, { name := "Stiff", type := 26, offset := 7, embedded := false, tag := "", pkgPath := "", byteOffset := 56 }, { name := "Spring", type := 26, offset := 9, embedded := false, tag := "", pkgPath := "", byteOffset := 72 }, { name := "Yield", type := 26, offset := 11, embedded := false, tag := "", pkgPath := "", byteOffset := 88 }]) := rval_un Try.underlying28
theorem sz28 {F : Fr} {h : Hp} {K : Nat → Hp → Prop} : dwp Try.prog F (sizeOf 28) h K = K 13 h := dwp_size_of Try.sizeOf28
theorem rs28 {F : Fr} {S : Hp} : rval Try.prog F (sizeOf 28) S = some 13 := rval_size Try.sizeOf28
theorem ag28 {F : Fr} {h : Hp} {K : Bool → Hp → Prop} : dwp Try.prog F (isAgg 28) h K = K true h := dwp_agg_of Try.isAgg28
theorem ra28 {F : Fr} {S : Hp} : rval Try.prog F (isAgg 28) S = some true := rval_agg Try.isAgg28
theorem ze28 {F : Fr} {h : Hp} {K : Value → Hp → Prop} : dwp Try.prog F (zeroValue 28) h K = K (Go.Value.agg #[Go.Value.int Go.IntKind.i64 0, Go.Value.int Go.IntKind.i64 0, Go.Value.int Go.IntKind.i64 0, Go.Value.int Go.IntKind.i64 0, Go.Value.int Go.IntKind.i64 0, Go.Value.int Go.IntKind.i64 0, Go.Value.int Go.IntKind.i64 0, Go.Value.int Go.IntKind.i64 0, Go.Value.int Go.IntKind.i64 0, Go.Value.int Go.IntKind.i64 0, Go.Value.int Go.IntKind.i64 0, Go.Value.int Go.IntKind.i64 0, Go.Value.int Go.IntKind.i64 0]) h := dwp_zero_of Try.zeroValue28
theorem rz28 {F : Fr} {S : Hp} : rval Try.prog F (zeroValue 28) S = some (Go.Value.agg #[Go.Value.int Go.IntKind.i64 0, Go.Value.int Go.IntKind.i64 0, Go.Value.int Go.IntKind.i64 0, Go.Value.int Go.IntKind.i64 0, Go.Value.int Go.IntKind.i64 0, Go.Value.int Go.IntKind.i64 0, Go.Value.int Go.IntKind.i64 0, Go.Value.int Go.IntKind.i64 0, Go.Value.int Go.IntKind.i64 0, Go.Value.int Go.IntKind.i64 0, Go.Value.int Go.IntKind.i64 0, Go.Value.int Go.IntKind.i64 0, Go.Value.int Go.IntKind.i64 0]) := rval_zero Try.zeroValue28
theorem un30 {F : Fr} {h : Hp} {K : TypeDesc → Hp → Prop} : dwp Try.prog F (underlying 30) h K = K (Go.TypeDesc.slice 37) h := by rw [dwp_underlying, Try.underlying30]; rfl
theorem ru30 {F : Fr} {S : Hp} : rval Try.prog F (underlying 30) S = some (Go.TypeDesc.slice 37) := rval_un Try.underlying30
theorem ix30 {F : Fr} {h : Hp} {a : Addr} {n c : Nat} {k : IntKind} {i : Int} {K : Value → Hp → Prop} (h1 : 0 ≤ i) (h2 : i < (n : Int)) : dwp Try.prog F (Instr.indexAt 30 (.slice (some a) n c) (.int k i)) h K = K (.pointer (some (a.add (i.toNat * 7)))) h := dwp_ixS Try.underlying30 Try.sizeOf37 h1 h2
theorem rx30 {F : Fr} {S : Hp} {a : Addr} {n c : Nat} {k : IntKind} {i : Int} (h1 : 0 ≤ i) (h2 : i < (n : Int)) : rval Try.prog F (Instr.indexAt 30 (.slice (some a) n c) (.int k i)) S = some (.pointer (some (a.add (i.toNat * 7)))) := rval_ixS Try.underlying30 Try.sizeOf37 h1 h2
theorem sz30 {F : Fr} {h : Hp} {K : Nat → Hp → Prop} : dwp Try.prog F (sizeOf 30) h K = K 1 h := dwp_size_of Try.sizeOf30
theorem rs30 {F : Fr} {S : Hp} : rval Try.prog F (sizeOf 30) S = some 1 := rval_size Try.sizeOf30
theorem ag30 {F : Fr} {h : Hp} {K : Bool → Hp → Prop} : dwp Try.prog F (isAgg 30) h K = K false h := dwp_agg_of Try.isAgg30
theorem ra30 {F : Fr} {S : Hp} : rval Try.prog F (isAgg 30) S = some false := rval_agg Try.isAgg30
theorem ze30 {F : Fr} {h : Hp} {K : Value → Hp → Prop} : dwp Try.prog F (zeroValue 30) h K = K (Go.Value.slice none 0 0) h := dwp_zero_of Try.zeroValue30
theorem rz30 {F : Fr} {S : Hp} : rval Try.prog F (zeroValue 30) S = some (Go.Value.slice none 0 0) := rval_zero Try.zeroValue30
theorem un31 {F : Fr} {h : Hp} {K : TypeDesc → Hp → Prop} : dwp Try.prog F (underlying 31) h K = K (Go.TypeDesc.slice 3) h := by rw [dwp_underlying, Try.underlying31]; rfl
theorem ru31 {F : Fr} {S : Hp} : rval Try.prog F (underlying 31) S = some (Go.TypeDesc.slice 3) := rval_un Try.underlying31
theorem ix31 {F : Fr} {h : Hp} {a : Addr} {n c : Nat} {k : IntKind} {i : Int} {K : Value → Hp → Prop} (h1 : 0 ≤ i) (h2 : i < (n : Int)) : dwp Try.prog F (Instr.indexAt 31 (.slice (some a) n c) (.int k i)) h K = K (.pointer (some (a.add (i.toNat * 1)))) h := dwp_ixS Try.underlying31 Try.sizeOf3 h1 h2
theorem rx31 {F : Fr} {S : Hp} {a : Addr} {n c : Nat} {k : IntKind} {i : Int} (h1 : 0 ≤ i) (h2 : i < (n : Int)) : rval Try.prog F (Instr.indexAt 31 (.slice (some a) n c) (.int k i)) S = some (.pointer (some (a.add (i.toNat * 1)))) := rval_ixS Try.underlying31 Try.sizeOf3 h1 h2
theorem sz31 {F : Fr} {h : Hp} {K : Nat → Hp → Prop} : dwp Try.prog F (sizeOf 31) h K = K 1 h := dwp_size_of Try.sizeOf31
theorem rs31 {F : Fr} {S : Hp} : rval Try.prog F (sizeOf 31) S = some 1 := rval_size Try.sizeOf31
theorem ag31 {F : Fr} {h : Hp} {K : Bool → Hp → Prop} : dwp Try.prog F (isAgg 31) h K = K false h := dwp_agg_of Try.isAgg31
theorem ra31 {F : Fr} {S : Hp} : rval Try.prog F (isAgg 31) S = some false := rval_agg Try.isAgg31
theorem ze31 {F : Fr} {h : Hp} {K : Value → Hp → Prop} : dwp Try.prog F (zeroValue 31) h K = K (Go.Value.slice none 0 0) h := dwp_zero_of Try.zeroValue31
theorem rz31 {F : Fr} {S : Hp} : rval Try.prog F (zeroValue 31) S = some (Go.Value.slice none 0 0) := rval_zero Try.zeroValue31
theorem un33 {F : Fr} {h : Hp} {K : TypeDesc → Hp → Prop} : dwp Try.prog F (underlying 33) h K = K (Go.TypeDesc.struct #[{ name := "Bolts", type := 3, offset := 0, embedded := false, tag := "", pkgPath := "", byteOffset := 0 }, { name := "Kind", type := 28, offset := 1, embedded := false, tag := "", pkgPath := "", byteOffset := 8 }, { name := "Share", type := 31, offset := 14, embedded := false, tag := "", pkgPath := "", byteOffset := 112 }, { name := "Need", type := 3, offset := 15, embedded := false, tag := "", pkgPath := "", byteOffset := 136 }]) h := by rw [dwp_underlying, Try.underlying33]; rfl
theorem ru33 {F : Fr} {S : Hp} : rval Try.prog F (underlying 33) S = some (Go.TypeDesc.struct #[{ name := "Bolts", type := 3, offset := 0, embedded := false, tag := "", pkgPath := "", byteOffset := 0 }, { name := "Kind", type := 28, offset := 1, embedded := false, tag := "", pkgPath := "", byteOffset := 8 }, { name := "Share", type := 31, offset := 14, embedded := false, tag := "", pkgPath := "", byteOffset := 112 }, { name := "Need", type := 3, offset := 15, embedded := false, tag := "", pkgPath := "", byteOffset := 136 }]) := rval_un Try.underlying33
theorem sz33 {F : Fr} {h : Hp} {K : Nat → Hp → Prop} : dwp Try.prog F (sizeOf 33) h K = K 16 h := dwp_size_of Try.sizeOf33
theorem rs33 {F : Fr} {S : Hp} : rval Try.prog F (sizeOf 33) S = some 16 := rval_size Try.sizeOf33
theorem ag33 {F : Fr} {h : Hp} {K : Bool → Hp → Prop} : dwp Try.prog F (isAgg 33) h K = K true h := dwp_agg_of Try.isAgg33
theorem ra33 {F : Fr} {S : Hp} : rval Try.prog F (isAgg 33) S = some true := rval_agg Try.isAgg33
theorem ze33 {F : Fr} {h : Hp} {K : Value → Hp → Prop} : dwp Try.prog F (zeroValue 33) h K = K (Go.Value.agg #[Go.Value.int Go.IntKind.i64 0, Go.Value.int Go.IntKind.i64 0, Go.Value.int Go.IntKind.i64 0, Go.Value.int Go.IntKind.i64 0, Go.Value.int Go.IntKind.i64 0, Go.Value.int Go.IntKind.i64 0, Go.Value.int Go.IntKind.i64 0, Go.Value.int Go.IntKind.i64 0, Go.Value.int Go.IntKind.i64 0, Go.Value.int Go.IntKind.i64 0, Go.Value.int Go.IntKind.i64 0, Go.Value.int Go.IntKind.i64 0, Go.Value.int Go.IntKind.i64 0, Go.Value.int Go.IntKind.i64 0, Go.Value.slice none 0 0, Go.Value.int Go.IntKind.i64 0]) h := dwp_zero_of Try.zeroValue33
theorem rz33 {F : Fr} {S : Hp} : rval Try.prog F (zeroValue 33) S = some (Go.Value.agg #[Go.Value.int Go.IntKind.i64 0, Go.Value.int Go.IntKind.i64 0, Go.Value.int Go.IntKind.i64 0, Go.Value.int Go.IntKind.i64 0, Go.Value.int Go.IntKind.i64 0, Go.Value.int Go.IntKind.i64 0, Go.Value.int Go.IntKind.i64 0, Go.Value.int Go.IntKind.i64 0, Go.Value.int Go.IntKind.i64 0, Go.Value.int Go.IntKind.i64 0, Go.Value.int Go.IntKind.i64 0, Go.Value.int Go.IntKind.i64 0, Go.Value.int Go.IntKind.i64 0, Go.Value.int Go.IntKind.i64 0, Go.Value.slice none 0 0, Go.Value.int Go.IntKind.i64 0]) := rval_zero Try.zeroValue33
theorem un35 {F : Fr} {h : Hp} {K : TypeDesc → Hp → Prop} : dwp Try.prog F (underlying 35) h K = K (Go.TypeDesc.int Go.IntKind.i64) h := by rw [dwp_underlying, Try.underlying35]; rfl
theorem ru35 {F : Fr} {S : Hp} : rval Try.prog F (underlying 35) S = some (Go.TypeDesc.int Go.IntKind.i64) := rval_un Try.underlying35
theorem sz35 {F : Fr} {h : Hp} {K : Nat → Hp → Prop} : dwp Try.prog F (sizeOf 35) h K = K 1 h := dwp_size_of Try.sizeOf35
theorem rs35 {F : Fr} {S : Hp} : rval Try.prog F (sizeOf 35) S = some 1 := rval_size Try.sizeOf35
theorem ag35 {F : Fr} {h : Hp} {K : Bool → Hp → Prop} : dwp Try.prog F (isAgg 35) h K = K false h := dwp_agg_of Try.isAgg35
theorem ra35 {F : Fr} {S : Hp} : rval Try.prog F (isAgg 35) S = some false := rval_agg Try.isAgg35
theorem ze35 {F : Fr} {h : Hp} {K : Value → Hp → Prop} : dwp Try.prog F (zeroValue 35) h K = K (Go.Value.int Go.IntKind.i64 0) h := dwp_zero_of Try.zeroValue35
theorem rz35 {F : Fr} {S : Hp} : rval Try.prog F (zeroValue 35) S = some (Go.Value.int Go.IntKind.i64 0) := rval_zero Try.zeroValue35
theorem un37 {F : Fr} {h : Hp} {K : TypeDesc → Hp → Prop} : dwp Try.prog F (underlying 37) h K = K (Go.TypeDesc.struct #[{ name := "Kind", type := 35, offset := 0, embedded := false, tag := "", pkgPath := "", byteOffset := 0 }, { name := "Torque", type := 26, offset := 1, embedded := false, tag := "", pkgPath := "", byteOffset := 8 }, { name := "Angle", type := 26, offset := 3, embedded := false, tag := "", pkgPath := "", byteOffset := 24 }, { name := "Stretch", type := 26, offset := 5, embedded := false, tag := "", pkgPath := "", byteOffset := 40 }]) h := by rw [dwp_underlying, Try.underlying37]; rfl
theorem ru37 {F : Fr} {S : Hp} : rval Try.prog F (underlying 37) S = some (Go.TypeDesc.struct #[{ name := "Kind", type := 35, offset := 0, embedded := false, tag := "", pkgPath := "", byteOffset := 0 }, { name := "Torque", type := 26, offset := 1, embedded := false, tag := "", pkgPath := "", byteOffset := 8 }, { name := "Angle", type := 26, offset := 3, embedded := false, tag := "", pkgPath := "", byteOffset := 24 }, { name := "Stretch", type := 26, offset := 5, embedded := false, tag := "", pkgPath := "", byteOffset := 40 }]) := rval_un Try.underlying37
theorem sz37 {F : Fr} {h : Hp} {K : Nat → Hp → Prop} : dwp Try.prog F (sizeOf 37) h K = K 7 h := dwp_size_of Try.sizeOf37
theorem rs37 {F : Fr} {S : Hp} : rval Try.prog F (sizeOf 37) S = some 7 := rval_size Try.sizeOf37
theorem ag37 {F : Fr} {h : Hp} {K : Bool → Hp → Prop} : dwp Try.prog F (isAgg 37) h K = K true h := dwp_agg_of Try.isAgg37
theorem ra37 {F : Fr} {S : Hp} : rval Try.prog F (isAgg 37) S = some true := rval_agg Try.isAgg37
theorem ze37 {F : Fr} {h : Hp} {K : Value → Hp → Prop} : dwp Try.prog F (zeroValue 37) h K = K (Go.Value.agg #[Go.Value.int Go.IntKind.i64 0, Go.Value.int Go.IntKind.i64 0, Go.Value.int Go.IntKind.i64 0, Go.Value.int Go.IntKind.i64 0, Go.Value.int Go.IntKind.i64 0, Go.Value.int Go.IntKind.i64 0, Go.Value.int Go.IntKind.i64 0]) h := dwp_zero_of Try.zeroValue37
theorem rz37 {F : Fr} {S : Hp} : rval Try.prog F (zeroValue 37) S = some (Go.Value.agg #[Go.Value.int Go.IntKind.i64 0, Go.Value.int Go.IntKind.i64 0, Go.Value.int Go.IntKind.i64 0, Go.Value.int Go.IntKind.i64 0, Go.Value.int Go.IntKind.i64 0, Go.Value.int Go.IntKind.i64 0, Go.Value.int Go.IntKind.i64 0]) := rval_zero Try.zeroValue37
theorem un39 {F : Fr} {h : Hp} {K : TypeDesc → Hp → Prop} : dwp Try.prog F (underlying 39) h K = K (Go.TypeDesc.int Go.IntKind.i64) h := by rw [dwp_underlying, Try.underlying39]; rfl
theorem ru39 {F : Fr} {S : Hp} : rval Try.prog F (underlying 39) S = some (Go.TypeDesc.int Go.IntKind.i64) := rval_un Try.underlying39
theorem sz39 {F : Fr} {h : Hp} {K : Nat → Hp → Prop} : dwp Try.prog F (sizeOf 39) h K = K 1 h := dwp_size_of Try.sizeOf39
theorem rs39 {F : Fr} {S : Hp} : rval Try.prog F (sizeOf 39) S = some 1 := rval_size Try.sizeOf39
theorem ag39 {F : Fr} {h : Hp} {K : Bool → Hp → Prop} : dwp Try.prog F (isAgg 39) h K = K false h := dwp_agg_of Try.isAgg39
theorem ra39 {F : Fr} {S : Hp} : rval Try.prog F (isAgg 39) S = some false := rval_agg Try.isAgg39
theorem ze39 {F : Fr} {h : Hp} {K : Value → Hp → Prop} : dwp Try.prog F (zeroValue 39) h K = K (Go.Value.int Go.IntKind.i64 0) h := dwp_zero_of Try.zeroValue39
theorem rz39 {F : Fr} {S : Hp} : rval Try.prog F (zeroValue 39) S = some (Go.Value.int Go.IntKind.i64 0) := rval_zero Try.zeroValue39
theorem un46 {F : Fr} {h : Hp} {K : TypeDesc → Hp → Prop} : dwp Try.prog F (underlying 46) h K = K (Go.TypeDesc.slice 70) h := by rw [dwp_underlying, Try.underlying46]; rfl
theorem ru46 {F : Fr} {S : Hp} : rval Try.prog F (underlying 46) S = some (Go.TypeDesc.slice 70) := rval_un Try.underlying46
theorem ix46 {F : Fr} {h : Hp} {a : Addr} {n c : Nat} {k : IntKind} {i : Int} {K : Value → Hp → Prop} (h1 : 0 ≤ i) (h2 : i < (n : Int)) : dwp Try.prog F (Instr.indexAt 46 (.slice (some a) n c) (.int k i)) h K = K (.pointer (some (a.add (i.toNat * 2)))) h := dwp_ixS Try.underlying46 Try.sizeOf70 h1 h2
theorem rx46 {F : Fr} {S : Hp} {a : Addr} {n c : Nat} {k : IntKind} {i : Int} (h1 : 0 ≤ i) (h2 : i < (n : Int)) : rval Try.prog F (Instr.indexAt 46 (.slice (some a) n c) (.int k i)) S = some (.pointer (some (a.add (i.toNat * 2)))) := rval_ixS Try.underlying46 Try.sizeOf70 h1 h2
theorem sz46 {F : Fr} {h : Hp} {K : Nat → Hp → Prop} : dwp Try.prog F (sizeOf 46) h K = K 1 h := dwp_size_of Try.sizeOf46
theorem rs46 {F : Fr} {S : Hp} : rval Try.prog F (sizeOf 46) S = some 1 := rval_size Try.sizeOf46
theorem ag46 {F : Fr} {h : Hp} {K : Bool → Hp → Prop} : dwp Try.prog F (isAgg 46) h K = K false h := dwp_agg_of Try.isAgg46
theorem ra46 {F : Fr} {S : Hp} : rval Try.prog F (isAgg 46) S = some false := rval_agg Try.isAgg46
theorem ze46 {F : Fr} {h : Hp} {K : Value → Hp → Prop} : dwp Try.prog F (zeroValue 46) h K = K (Go.Value.slice none 0 0) h := dwp_zero_of Try.zeroValue46
theorem rz46 {F : Fr} {S : Hp} : rval Try.prog F (zeroValue 46) S = some (Go.Value.slice none 0 0) := rval_zero Try.zeroValue46
theorem un50 {F : Fr} {h : Hp} {K : TypeDesc → Hp → Prop} : dwp Try.prog F (underlying 50) h K = K (Go.TypeDesc.tuple #[26, 39]) h := by rw [dwp_underlying, Try.underlying50]; rfl
theorem ru50 {F : Fr} {S : Hp} : rval Try.prog F (underlying 50) S = some (Go.TypeDesc.tuple #[26, 39]) := rval_un Try.underlying50
theorem sz50 {F : Fr} {h : Hp} {K : Nat → Hp → Prop} : dwp Try.prog F (sizeOf 50) h K = K 1 h := dwp_size_of Try.sizeOf50
theorem rs50 {F : Fr} {S : Hp} : rval Try.prog F (sizeOf 50) S = some 1 := rval_size Try.sizeOf50
theorem ag50 {F : Fr} {h : Hp} {K : Bool → Hp → Prop} : dwp Try.prog F (isAgg 50) h K = K false h := dwp_agg_of Try.isAgg50
theorem ra50 {F : Fr} {S : Hp} : rval Try.prog F (isAgg 50) S = some false := rval_agg Try.isAgg50
theorem ze50 {F : Fr} {h : Hp} {K : Value → Hp → Prop} : dwp Try.prog F (zeroValue 50) h K = K (Go.Value.tuple #[Go.Value.agg #[Go.Value.int Go.IntKind.i64 0, Go.Value.int Go.IntKind.i64 0], Go.Value.int Go.IntKind.i64 0]) h := dwp_zero_of Try.zeroValue50
theorem rz50 {F : Fr} {S : Hp} : rval Try.prog F (zeroValue 50) S = some (Go.Value.tuple #[Go.Value.agg #[Go.Value.int Go.IntKind.i64 0, Go.Value.int Go.IntKind.i64 0], Go.Value.int Go.IntKind.i64 0]) := rval_zero Try.zeroValue50
theorem un57 {F : Fr} {h : Hp} {K : TypeDesc → Hp → Prop} : dwp Try.prog F (underlying 57) h K = K (Go.TypeDesc.struct #[{ name := "BoltKind", type := 28, offset := 0, embedded := true, tag := "", pkgPath := "", byteOffset := 0 }]) h := by rw [dwp_underlying, Try.underlying57]; rfl
theorem ru57 {F : Fr} {S : Hp} : rval Try.prog F (underlying 57) S = some (Go.TypeDesc.struct #[{ name := "BoltKind", type := 28, offset := 0, embedded := true, tag := "", pkgPath := "", byteOffset := 0 }]) := rval_un Try.underlying57
theorem sz57 {F : Fr} {h : Hp} {K : Nat → Hp → Prop} : dwp Try.prog F (sizeOf 57) h K = K 13 h := dwp_size_of Try.sizeOf57
theorem rs57 {F : Fr} {S : Hp} : rval Try.prog F (sizeOf 57) S = some 13 := rval_size Try.sizeOf57
theorem ag57 {F : Fr} {h : Hp} {K : Bool → Hp → Prop} : dwp Try.prog F (isAgg 57) h K = K true h := dwp_agg_of Try.isAgg57
theorem ra57 {F : Fr} {S : Hp} : rval Try.prog F (isAgg 57) S = some true := rval_agg Try.isAgg57
theorem ze57 {F : Fr} {h : Hp} {K : Value → Hp → Prop} : dwp Try.prog F (zeroValue 57) h K = K (Go.Value.agg #[Go.Value.int Go.IntKind.i64 0, Go.Value.int Go.IntKind.i64 0, Go.Value.int Go.IntKind.i64 0, Go.Value.int Go.IntKind.i64 0, Go.Value.int Go.IntKind.i64 0, Go.Value.int Go.IntKind.i64 0, Go.Value.int Go.IntKind.i64 0, Go.Value.int Go.IntKind.i64 0, Go.Value.int Go.IntKind.i64 0, Go.Value.int Go.IntKind.i64 0, Go.Value.int Go.IntKind.i64 0, Go.Value.int Go.IntKind.i64 0, Go.Value.int Go.IntKind.i64 0]) h := dwp_zero_of Try.zeroValue57
theorem rz57 {F : Fr} {S : Hp} : rval Try.prog F (zeroValue 57) S = some (Go.Value.agg #[Go.Value.int Go.IntKind.i64 0, Go.Value.int Go.IntKind.i64 0, Go.Value.int Go.IntKind.i64 0, Go.Value.int Go.IntKind.i64 0, Go.Value.int Go.IntKind.i64 0, Go.Value.int Go.IntKind.i64 0, Go.Value.int Go.IntKind.i64 0, Go.Value.int Go.IntKind.i64 0, Go.Value.int Go.IntKind.i64 0, Go.Value.int Go.IntKind.i64 0, Go.Value.int Go.IntKind.i64 0, Go.Value.int Go.IntKind.i64 0, Go.Value.int Go.IntKind.i64 0]) := rval_zero Try.zeroValue57
theorem un60 {F : Fr} {h : Hp} {K : TypeDesc → Hp → Prop} : dwp Try.prog F (underlying 60) h K = K (Go.TypeDesc.func #[26] #[4] false) h := by rw [dwp_underlying, Try.underlying60]; rfl
theorem ru60 {F : Fr} {S : Hp} : rval Try.prog F (underlying 60) S = some (Go.TypeDesc.func #[26] #[4] false) := rval_un Try.underlying60
theorem sz60 {F : Fr} {h : Hp} {K : Nat → Hp → Prop} : dwp Try.prog F (sizeOf 60) h K = K 1 h := dwp_size_of Try.sizeOf60
theorem rs60 {F : Fr} {S : Hp} : rval Try.prog F (sizeOf 60) S = some 1 := rval_size Try.sizeOf60
theorem ag60 {F : Fr} {h : Hp} {K : Bool → Hp → Prop} : dwp Try.prog F (isAgg 60) h K = K false h := dwp_agg_of Try.isAgg60
theorem ra60 {F : Fr} {S : Hp} : rval Try.prog F (isAgg 60) S = some false := rval_agg Try.isAgg60
theorem ze60 {F : Fr} {h : Hp} {K : Value → Hp → Prop} : dwp Try.prog F (zeroValue 60) h K = K Go.Value.nilFunc h := dwp_zero_of Try.zeroValue60
theorem rz60 {F : Fr} {S : Hp} : rval Try.prog F (zeroValue 60) S = some (Go.Value.nilFunc) := rval_zero Try.zeroValue60
theorem un66 {F : Fr} {h : Hp} {K : TypeDesc → Hp → Prop} : dwp Try.prog F (underlying 66) h K = K (Go.TypeDesc.pointer 95) h := by rw [dwp_underlying, Try.underlying66]; rfl
theorem ru66 {F : Fr} {S : Hp} : rval Try.prog F (underlying 66) S = some (Go.TypeDesc.pointer 95) := rval_un Try.underlying66
theorem sz66 {F : Fr} {h : Hp} {K : Nat → Hp → Prop} : dwp Try.prog F (sizeOf 66) h K = K 1 h := dwp_size_of Try.sizeOf66
theorem rs66 {F : Fr} {S : Hp} : rval Try.prog F (sizeOf 66) S = some 1 := rval_size Try.sizeOf66
theorem ag66 {F : Fr} {h : Hp} {K : Bool → Hp → Prop} : dwp Try.prog F (isAgg 66) h K = K false h := dwp_agg_of Try.isAgg66
theorem ra66 {F : Fr} {S : Hp} : rval Try.prog F (isAgg 66) S = some false := rval_agg Try.isAgg66
theorem ze66 {F : Fr} {h : Hp} {K : Value → Hp → Prop} : dwp Try.prog F (zeroValue 66) h K = K (Go.Value.pointer none) h := dwp_zero_of Try.zeroValue66
theorem rz66 {F : Fr} {S : Hp} : rval Try.prog F (zeroValue 66) S = some (Go.Value.pointer none) := rval_zero Try.zeroValue66
theorem un70 {F : Fr} {h : Hp} {K : TypeDesc → Hp → Prop} : dwp Try.prog F (underlying 70) h K = K (Go.TypeDesc.struct #[{ name := "Bolt", type := 3, offset := 0, embedded := false, tag := "", pkgPath := "", byteOffset := 0 }, { name := "Torque", type := 3, offset := 1, embedded := false, tag := "", pkgPath := "", byteOffset := 8 }]) h := by rw [dwp_underlying, Try.underlying70]; rfl
theorem ru70 {F : Fr} {S : Hp} : rval Try.prog F (underlying 70) S = some (Go.TypeDesc.struct #[{ name := "Bolt", type := 3, offset := 0, embedded := false, tag := "", pkgPath := "", byteOffset := 0 }, { name := "Torque", type := 3, offset := 1, embedded := false, tag := "", pkgPath := "", byteOffset := 8 }]) := rval_un Try.underlying70
theorem sz70 {F : Fr} {h : Hp} {K : Nat → Hp → Prop} : dwp Try.prog F (sizeOf 70) h K = K 2 h := dwp_size_of Try.sizeOf70
theorem rs70 {F : Fr} {S : Hp} : rval Try.prog F (sizeOf 70) S = some 2 := rval_size Try.sizeOf70
theorem ag70 {F : Fr} {h : Hp} {K : Bool → Hp → Prop} : dwp Try.prog F (isAgg 70) h K = K true h := dwp_agg_of Try.isAgg70
theorem ra70 {F : Fr} {S : Hp} : rval Try.prog F (isAgg 70) S = some true := rval_agg Try.isAgg70
theorem ze70 {F : Fr} {h : Hp} {K : Value → Hp → Prop} : dwp Try.prog F (zeroValue 70) h K = K (Go.Value.agg #[Go.Value.int Go.IntKind.i64 0, Go.Value.int Go.IntKind.i64 0]) h := dwp_zero_of Try.zeroValue70
theorem rz70 {F : Fr} {S : Hp} : rval Try.prog F (zeroValue 70) S = some (Go.Value.agg #[Go.Value.int Go.IntKind.i64 0, Go.Value.int Go.IntKind.i64 0]) := rval_zero Try.zeroValue70
theorem un72 {F : Fr} {h : Hp} {K : TypeDesc → Hp → Prop} : dwp Try.prog F (underlying 72) h K = K (Go.TypeDesc.slice 26) h := by rw [dwp_underlying, Try.underlying72]; rfl
theorem ru72 {F : Fr} {S : Hp} : rval Try.prog F (underlying 72) S = some (Go.TypeDesc.slice 26) := rval_un Try.underlying72
theorem ix72 {F : Fr} {h : Hp} {a : Addr} {n c : Nat} {k : IntKind} {i : Int} {K : Value → Hp → Prop} (h1 : 0 ≤ i) (h2 : i < (n : Int)) : dwp Try.prog F (Instr.indexAt 72 (.slice (some a) n c) (.int k i)) h K = K (.pointer (some (a.add (i.toNat * 2)))) h := dwp_ixS Try.underlying72 Try.sizeOf26 h1 h2
theorem rx72 {F : Fr} {S : Hp} {a : Addr} {n c : Nat} {k : IntKind} {i : Int} (h1 : 0 ≤ i) (h2 : i < (n : Int)) : rval Try.prog F (Instr.indexAt 72 (.slice (some a) n c) (.int k i)) S = some (.pointer (some (a.add (i.toNat * 2)))) := rval_ixS Try.underlying72 Try.sizeOf26 h1 h2
theorem sz72 {F : Fr} {h : Hp} {K : Nat → Hp → Prop} : dwp Try.prog F (sizeOf 72) h K = K 1 h := dwp_size_of Try.sizeOf72
theorem rs72 {F : Fr} {S : Hp} : rval Try.prog F (sizeOf 72) S = some 1 := rval_size Try.sizeOf72
theorem ag72 {F : Fr} {h : Hp} {K : Bool → Hp → Prop} : dwp Try.prog F (isAgg 72) h K = K false h := dwp_agg_of Try.isAgg72
theorem ra72 {F : Fr} {S : Hp} : rval Try.prog F (isAgg 72) S = some false := rval_agg Try.isAgg72
theorem ze72 {F : Fr} {h : Hp} {K : Value → Hp → Prop} : dwp Try.prog F (zeroValue 72) h K = K (Go.Value.slice none 0 0) h := dwp_zero_of Try.zeroValue72
theorem rz72 {F : Fr} {S : Hp} : rval Try.prog F (zeroValue 72) S = some (Go.Value.slice none 0 0) := rval_zero Try.zeroValue72
theorem un74 {F : Fr} {h : Hp} {K : TypeDesc → Hp → Prop} : dwp Try.prog F (underlying 74) h K = K (Go.TypeDesc.struct #[{ name := "Forces", type := 72, offset := 0, embedded := false, tag := "", pkgPath := "", byteOffset := 0 }, { name := "Most", type := 3, offset := 1, embedded := false, tag := "", pkgPath := "", byteOffset := 24 }, { name := "Lost", type := 72, offset := 2, embedded := false, tag := "", pkgPath := "", byteOffset := 32 }]) h := by rw [dwp_underlying, Try.underlying74]; rfl
theorem ru74 {F : Fr} {S : Hp} : rval Try.prog F (underlying 74) S = some (Go.TypeDesc.struct #[{ name := "Forces", type := 72, offset := 0, embedded := false, tag := "", pkgPath := "", byteOffset := 0 }, { name := "Most", type := 3, offset := 1, embedded := false, tag := "", pkgPath := "", byteOffset := 24 }, { name := "Lost", type := 72, offset := 2, embedded := false, tag := "", pkgPath := "", byteOffset := 32 }]) := rval_un Try.underlying74
theorem sz74 {F : Fr} {h : Hp} {K : Nat → Hp → Prop} : dwp Try.prog F (sizeOf 74) h K = K 3 h := dwp_size_of Try.sizeOf74
theorem rs74 {F : Fr} {S : Hp} : rval Try.prog F (sizeOf 74) S = some 3 := rval_size Try.sizeOf74
theorem ag74 {F : Fr} {h : Hp} {K : Bool → Hp → Prop} : dwp Try.prog F (isAgg 74) h K = K true h := dwp_agg_of Try.isAgg74
theorem ra74 {F : Fr} {S : Hp} : rval Try.prog F (isAgg 74) S = some true := rval_agg Try.isAgg74
theorem ze74 {F : Fr} {h : Hp} {K : Value → Hp → Prop} : dwp Try.prog F (zeroValue 74) h K = K (Go.Value.agg #[Go.Value.slice none 0 0, Go.Value.int Go.IntKind.i64 0, Go.Value.slice none 0 0]) h := dwp_zero_of Try.zeroValue74
theorem rz74 {F : Fr} {S : Hp} : rval Try.prog F (zeroValue 74) S = some (Go.Value.agg #[Go.Value.slice none 0 0, Go.Value.int Go.IntKind.i64 0, Go.Value.slice none 0 0]) := rval_zero Try.zeroValue74
theorem un87 {F : Fr} {h : Hp} {K : TypeDesc → Hp → Prop} : dwp Try.prog F (underlying 87) h K = K (Go.TypeDesc.func #[37] #[4] false) h := by rw [dwp_underlying, Try.underlying87]; rfl
theorem ru87 {F : Fr} {S : Hp} : rval Try.prog F (underlying 87) S = some (Go.TypeDesc.func #[37] #[4] false) := rval_un Try.underlying87
theorem sz87 {F : Fr} {h : Hp} {K : Nat → Hp → Prop} : dwp Try.prog F (sizeOf 87) h K = K 1 h := dwp_size_of Try.sizeOf87
theorem rs87 {F : Fr} {S : Hp} : rval Try.prog F (sizeOf 87) S = some 1 := rval_size Try.sizeOf87
theorem ag87 {F : Fr} {h : Hp} {K : Bool → Hp → Prop} : dwp Try.prog F (isAgg 87) h K = K false h := dwp_agg_of Try.isAgg87
theorem ra87 {F : Fr} {S : Hp} : rval Try.prog F (isAgg 87) S = some false := rval_agg Try.isAgg87
theorem ze87 {F : Fr} {h : Hp} {K : Value → Hp → Prop} : dwp Try.prog F (zeroValue 87) h K = K Go.Value.nilFunc h := dwp_zero_of Try.zeroValue87
theorem rz87 {F : Fr} {S : Hp} : rval Try.prog F (zeroValue 87) S = some (Go.Value.nilFunc) := rval_zero Try.zeroValue87
theorem un90 {F : Fr} {h : Hp} {K : TypeDesc → Hp → Prop} : dwp Try.prog F (underlying 90) h K = K (Go.TypeDesc.func #[31, 3, 65] #[] false) h := by rw [dwp_underlying, Try.underlying90]; rfl
theorem ru90 {F : Fr} {S : Hp} : rval Try.prog F (underlying 90) S = some (Go.TypeDesc.func #[31, 3, 65] #[] false) := rval_un Try.underlying90
theorem sz90 {F : Fr} {h : Hp} {K : Nat → Hp → Prop} : dwp Try.prog F (sizeOf 90) h K = K 1 h := dwp_size_of Try.sizeOf90
theorem rs90 {F : Fr} {S : Hp} : rval Try.prog F (sizeOf 90) S = some 1 := rval_size Try.sizeOf90
theorem ag90 {F : Fr} {h : Hp} {K : Bool → Hp → Prop} : dwp Try.prog F (isAgg 90) h K = K false h := dwp_agg_of Try.isAgg90
theorem ra90 {F : Fr} {S : Hp} : rval Try.prog F (isAgg 90) S = some false := rval_agg Try.isAgg90
theorem ze90 {F : Fr} {h : Hp} {K : Value → Hp → Prop} : dwp Try.prog F (zeroValue 90) h K = K Go.Value.nilFunc h := dwp_zero_of Try.zeroValue90
theorem rz90 {F : Fr} {S : Hp} : rval Try.prog F (zeroValue 90) S = some (Go.Value.nilFunc) := rval_zero Try.zeroValue90
theorem un93 {F : Fr} {h : Hp} {K : TypeDesc → Hp → Prop} : dwp Try.prog F (underlying 93) h K = K (Go.TypeDesc.slice 26) h := by rw [dwp_underlying, Try.underlying93]; rfl
theorem ru93 {F : Fr} {S : Hp} : rval Try.prog F (underlying 93) S = some (Go.TypeDesc.slice 26) := rval_un Try.underlying93
theorem ix93 {F : Fr} {h : Hp} {a : Addr} {n c : Nat} {k : IntKind} {i : Int} {K : Value → Hp → Prop} (h1 : 0 ≤ i) (h2 : i < (n : Int)) : dwp Try.prog F (Instr.indexAt 93 (.slice (some a) n c) (.int k i)) h K = K (.pointer (some (a.add (i.toNat * 2)))) h := dwp_ixS Try.underlying93 Try.sizeOf26 h1 h2
theorem rx93 {F : Fr} {S : Hp} {a : Addr} {n c : Nat} {k : IntKind} {i : Int} (h1 : 0 ≤ i) (h2 : i < (n : Int)) : rval Try.prog F (Instr.indexAt 93 (.slice (some a) n c) (.int k i)) S = some (.pointer (some (a.add (i.toNat * 2)))) := rval_ixS Try.underlying93 Try.sizeOf26 h1 h2
theorem sz93 {F : Fr} {h : Hp} {K : Nat → Hp → Prop} : dwp Try.prog F (sizeOf 93) h K = K 1 h := dwp_size_of Try.sizeOf93
theorem rs93 {F : Fr} {S : Hp} : rval Try.prog F (sizeOf 93) S = some 1 := rval_size Try.sizeOf93
theorem ag93 {F : Fr} {h : Hp} {K : Bool → Hp → Prop} : dwp Try.prog F (isAgg 93) h K = K false h := dwp_agg_of Try.isAgg93
theorem ra93 {F : Fr} {S : Hp} : rval Try.prog F (isAgg 93) S = some false := rval_agg Try.isAgg93
theorem ze93 {F : Fr} {h : Hp} {K : Value → Hp → Prop} : dwp Try.prog F (zeroValue 93) h K = K (Go.Value.slice none 0 0) h := dwp_zero_of Try.zeroValue93
theorem rz93 {F : Fr} {S : Hp} : rval Try.prog F (zeroValue 93) S = some (Go.Value.slice none 0 0) := rval_zero Try.zeroValue93
theorem un95 {F : Fr} {h : Hp} {K : TypeDesc → Hp → Prop} : dwp Try.prog F (underlying 95) h K = K (Go.TypeDesc.struct #[{ name := "FlangeRules", type := 33, offset := 0, embedded := true, tag := "", pkgPath := "", byteOffset := 0 }, { name := "forces", type := 93, offset := 16, embedded := false, tag := "", pkgPath := "acme/flange", byteOffset := 144 }, { name := "lost", type := 93, offset := 17, embedded := false, tag := "", pkgPath := "acme/flange", byteOffset := 168 }, { name := "most", type := 3, offset := 18, embedded := false, tag := "", pkgPath := "acme/flange", byteOffset := 192 }]) h := by rw [dwp_underlying, Try.underlying95]; rfl
theorem ru95 {F : Fr} {S : Hp} : rval Try.prog F (underlying 95) S = some (Go.TypeDesc.struct #[{ name := "FlangeRules", type := 33, offset := 0, embedded := true, tag := "", pkgPath := "", byteOffset := 0 }, { name := "forces", type := 93, offset := 16, embedded := false, tag := "", pkgPath := "acme/flange", byteOffset := 144 }, { name := "lost", type := 93, offset := 17, embedded := false, tag := "", pkgPath := "acme/flange", byteOffset := 168 }, { name := "most", type := 3, offset := 18, embedded := false, tag := "", pkgPath := "acme/flange", byteOffset := 192 }]) := rval_un Try.underlying95
theorem sz95 {F : Fr} {h : Hp} {K : Nat → Hp → Prop} : dwp Try.prog F (sizeOf 95) h K = K 19 h := dwp_size_of Try.sizeOf95
theorem rs95 {F : Fr} {S : Hp} : rval Try.prog F (sizeOf 95) S = some 19 := rval_size Try.sizeOf95
theorem ag95 {F : Fr} {h : Hp} {K : Bool → Hp → Prop} : dwp Try.prog F (isAgg 95) h K = K true h := dwp_agg_of Try.isAgg95
theorem ra95 {F : Fr} {S : Hp} : rval Try.prog F (isAgg 95) S = some true := rval_agg Try.isAgg95
theorem ze95 {F : Fr} {h : Hp} {K : Value → Hp → Prop} : dwp Try.prog F (zeroValue 95) h K = K (Go.Value.agg #[Go.Value.int Go.IntKind.i64 0, Go.Value.int Go.IntKind.i64 0, Go.Value.int Go.IntKind.i64 0, Go.Value.int Go.IntKind.i64 0, Go.Value.int Go.IntKind.i64 0, Go.Value.int Go.IntKind.i64 0, Go.Value.int Go.IntKind.i64 0, Go.Value.int Go.IntKind.i64 0, Go.Value.int Go.IntKind.i64 0, Go.Value.int Go.IntKind.i64 0, Go.Value.int Go.IntKind.i64 0, Go.Value.int Go.IntKind.i64 0, Go.Value.int Go.IntKind.i64 0, Go.Value.int Go.IntKind.i64 0, Go.Value.slice none 0 0, Go.Value.int Go.IntKind.i64 0, Go.Value.slice none 0 0, Go.Value.slice none 0 0, Go.Value.int Go.IntKind.i64 0]) h := dwp_zero_of Try.zeroValue95
theorem rz95 {F : Fr} {S : Hp} : rval Try.prog F (zeroValue 95) S = some (Go.Value.agg #[Go.Value.int Go.IntKind.i64 0, Go.Value.int Go.IntKind.i64 0, Go.Value.int Go.IntKind.i64 0, Go.Value.int Go.IntKind.i64 0, Go.Value.int Go.IntKind.i64 0, Go.Value.int Go.IntKind.i64 0, Go.Value.int Go.IntKind.i64 0, Go.Value.int Go.IntKind.i64 0, Go.Value.int Go.IntKind.i64 0, Go.Value.int Go.IntKind.i64 0, Go.Value.int Go.IntKind.i64 0, Go.Value.int Go.IntKind.i64 0, Go.Value.int Go.IntKind.i64 0, Go.Value.int Go.IntKind.i64 0, Go.Value.slice none 0 0, Go.Value.int Go.IntKind.i64 0, Go.Value.slice none 0 0, Go.Value.slice none 0 0, Go.Value.int Go.IntKind.i64 0]) := rval_zero Try.zeroValue95
theorem un100 {F : Fr} {h : Hp} {K : TypeDesc → Hp → Prop} : dwp Try.prog F (underlying 100) h K = K (Go.TypeDesc.func #[105] #[] false) h := by rw [dwp_underlying, Try.underlying100]; rfl
theorem ru100 {F : Fr} {S : Hp} : rval Try.prog F (underlying 100) S = some (Go.TypeDesc.func #[105] #[] false) := rval_un Try.underlying100
theorem sz100 {F : Fr} {h : Hp} {K : Nat → Hp → Prop} : dwp Try.prog F (sizeOf 100) h K = K 1 h := dwp_size_of Try.sizeOf100
theorem rs100 {F : Fr} {S : Hp} : rval Try.prog F (sizeOf 100) S = some 1 := rval_size Try.sizeOf100
theorem ag100 {F : Fr} {h : Hp} {K : Bool → Hp → Prop} : dwp Try.prog F (isAgg 100) h K = K false h := dwp_agg_of Try.isAgg100
theorem ra100 {F : Fr} {S : Hp} : rval Try.prog F (isAgg 100) S = some false := rval_agg Try.isAgg100
theorem ze100 {F : Fr} {h : Hp} {K : Value → Hp → Prop} : dwp Try.prog F (zeroValue 100) h K = K Go.Value.nilFunc h := dwp_zero_of Try.zeroValue100
theorem rz100 {F : Fr} {S : Hp} : rval Try.prog F (zeroValue 100) S = some (Go.Value.nilFunc) := rval_zero Try.zeroValue100
theorem un105 {F : Fr} {h : Hp} {K : TypeDesc → Hp → Prop} : dwp Try.prog F (underlying 105) h K = K (Go.TypeDesc.func #[3] #[4] false) h := by rw [dwp_underlying, Try.underlying105]; rfl
theorem ru105 {F : Fr} {S : Hp} : rval Try.prog F (underlying 105) S = some (Go.TypeDesc.func #[3] #[4] false) := rval_un Try.underlying105
theorem sz105 {F : Fr} {h : Hp} {K : Nat → Hp → Prop} : dwp Try.prog F (sizeOf 105) h K = K 1 h := dwp_size_of Try.sizeOf105
theorem rs105 {F : Fr} {S : Hp} : rval Try.prog F (sizeOf 105) S = some 1 := rval_size Try.sizeOf105
theorem ag105 {F : Fr} {h : Hp} {K : Bool → Hp → Prop} : dwp Try.prog F (isAgg 105) h K = K false h := dwp_agg_of Try.isAgg105
theorem ra105 {F : Fr} {S : Hp} : rval Try.prog F (isAgg 105) S = some false := rval_agg Try.isAgg105
theorem ze105 {F : Fr} {h : Hp} {K : Value → Hp → Prop} : dwp Try.prog F (zeroValue 105) h K = K Go.Value.nilFunc h := dwp_zero_of Try.zeroValue105
theorem rz105 {F : Fr} {S : Hp} : rval Try.prog F (zeroValue 105) S = some (Go.Value.nilFunc) := rval_zero Try.zeroValue105
theorem un107 {F : Fr} {h : Hp} {K : TypeDesc → Hp → Prop} : dwp Try.prog F (underlying 107) h K = K (Go.TypeDesc.array 2 26) h := by rw [dwp_underlying, Try.underlying107]; rfl
theorem ru107 {F : Fr} {S : Hp} : rval Try.prog F (underlying 107) S = some (Go.TypeDesc.array 2 26) := rval_un Try.underlying107
theorem ix107 {F : Fr} {h : Hp} {a : Addr} {k : IntKind} {i : Int} {K : Value → Hp → Prop} (h1 : 0 ≤ i) (h2 : i < ((2 : Nat) : Int)) : dwp Try.prog F (Instr.indexAt 107 (.pointer (some a)) (.int k i)) h K = K (.pointer (some (a.add (i.toNat * 2)))) h := dwp_ixA Try.underlying107 Try.sizeOf26 h1 h2
theorem rx107 {F : Fr} {S : Hp} {a : Addr} {k : IntKind} {i : Int} (h1 : 0 ≤ i) (h2 : i < ((2 : Nat) : Int)) : rval Try.prog F (Instr.indexAt 107 (.pointer (some a)) (.int k i)) S = some (.pointer (some (a.add (i.toNat * 2)))) := rval_ixA Try.underlying107 Try.sizeOf26 h1 h2
theorem sz107 {F : Fr} {h : Hp} {K : Nat → Hp → Prop} : dwp Try.prog F (sizeOf 107) h K = K 4 h := dwp_size_of Try.sizeOf107
theorem rs107 {F : Fr} {S : Hp} : rval Try.prog F (sizeOf 107) S = some 4 := rval_size Try.sizeOf107
theorem ag107 {F : Fr} {h : Hp} {K : Bool → Hp → Prop} : dwp Try.prog F (isAgg 107) h K = K true h := dwp_agg_of Try.isAgg107
theorem ra107 {F : Fr} {S : Hp} : rval Try.prog F (isAgg 107) S = some true := rval_agg Try.isAgg107
theorem ze107 {F : Fr} {h : Hp} {K : Value → Hp → Prop} : dwp Try.prog F (zeroValue 107) h K = K (Go.Value.agg #[Go.Value.int Go.IntKind.i64 0, Go.Value.int Go.IntKind.i64 0, Go.Value.int Go.IntKind.i64 0, Go.Value.int Go.IntKind.i64 0]) h := dwp_zero_of Try.zeroValue107
theorem rz107 {F : Fr} {S : Hp} : rval Try.prog F (zeroValue 107) S = some (Go.Value.agg #[Go.Value.int Go.IntKind.i64 0, Go.Value.int Go.IntKind.i64 0, Go.Value.int Go.IntKind.i64 0, Go.Value.int Go.IntKind.i64 0]) := rval_zero Try.zeroValue107
theorem un109 {F : Fr} {h : Hp} {K : TypeDesc → Hp → Prop} : dwp Try.prog F (underlying 109) h K = K (Go.TypeDesc.func #[26] #[3] false) h := by rw [dwp_underlying, Try.underlying109]; rfl
theorem ru109 {F : Fr} {S : Hp} : rval Try.prog F (underlying 109) S = some (Go.TypeDesc.func #[26] #[3] false) := rval_un Try.underlying109
theorem sz109 {F : Fr} {h : Hp} {K : Nat → Hp → Prop} : dwp Try.prog F (sizeOf 109) h K = K 1 h := dwp_size_of Try.sizeOf109
theorem rs109 {F : Fr} {S : Hp} : rval Try.prog F (sizeOf 109) S = some 1 := rval_size Try.sizeOf109
theorem ag109 {F : Fr} {h : Hp} {K : Bool → Hp → Prop} : dwp Try.prog F (isAgg 109) h K = K false h := dwp_agg_of Try.isAgg109
theorem ra109 {F : Fr} {S : Hp} : rval Try.prog F (isAgg 109) S = some false := rval_agg Try.isAgg109
theorem ze109 {F : Fr} {h : Hp} {K : Value → Hp → Prop} : dwp Try.prog F (zeroValue 109) h K = K Go.Value.nilFunc h := dwp_zero_of Try.zeroValue109
theorem rz109 {F : Fr} {S : Hp} : rval Try.prog F (zeroValue 109) S = some (Go.Value.nilFunc) := rval_zero Try.zeroValue109
theorem un110 {F : Fr} {h : Hp} {K : TypeDesc → Hp → Prop} : dwp Try.prog F (underlying 110) h K = K (Go.TypeDesc.func #[31, 3, 3, 65] #[] false) h := by rw [dwp_underlying, Try.underlying110]; rfl
theorem ru110 {F : Fr} {S : Hp} : rval Try.prog F (underlying 110) S = some (Go.TypeDesc.func #[31, 3, 3, 65] #[] false) := rval_un Try.underlying110
theorem sz110 {F : Fr} {h : Hp} {K : Nat → Hp → Prop} : dwp Try.prog F (sizeOf 110) h K = K 1 h := dwp_size_of Try.sizeOf110
theorem rs110 {F : Fr} {S : Hp} : rval Try.prog F (sizeOf 110) S = some 1 := rval_size Try.sizeOf110
theorem ag110 {F : Fr} {h : Hp} {K : Bool → Hp → Prop} : dwp Try.prog F (isAgg 110) h K = K false h := dwp_agg_of Try.isAgg110
theorem ra110 {F : Fr} {S : Hp} : rval Try.prog F (isAgg 110) S = some false := rval_agg Try.isAgg110
theorem ze110 {F : Fr} {h : Hp} {K : Value → Hp → Prop} : dwp Try.prog F (zeroValue 110) h K = K Go.Value.nilFunc h := dwp_zero_of Try.zeroValue110
theorem rz110 {F : Fr} {S : Hp} : rval Try.prog F (zeroValue 110) S = some (Go.Value.nilFunc) := rval_zero Try.zeroValue110
theorem un116 {F : Fr} {h : Hp} {K : TypeDesc → Hp → Prop} : dwp Try.prog F (underlying 116) h K = K (Go.TypeDesc.func #[122] #[] false) h := by rw [dwp_underlying, Try.underlying116]; rfl
theorem ru116 {F : Fr} {S : Hp} : rval Try.prog F (underlying 116) S = some (Go.TypeDesc.func #[122] #[] false) := rval_un Try.underlying116
theorem sz116 {F : Fr} {h : Hp} {K : Nat → Hp → Prop} : dwp Try.prog F (sizeOf 116) h K = K 1 h := dwp_size_of Try.sizeOf116
theorem rs116 {F : Fr} {S : Hp} : rval Try.prog F (sizeOf 116) S = some 1 := rval_size Try.sizeOf116
theorem ag116 {F : Fr} {h : Hp} {K : Bool → Hp → Prop} : dwp Try.prog F (isAgg 116) h K = K false h := dwp_agg_of Try.isAgg116
theorem ra116 {F : Fr} {S : Hp} : rval Try.prog F (isAgg 116) S = some false := rval_agg Try.isAgg116
theorem ze116 {F : Fr} {h : Hp} {K : Value → Hp → Prop} : dwp Try.prog F (zeroValue 116) h K = K Go.Value.nilFunc h := dwp_zero_of Try.zeroValue116
theorem rz116 {F : Fr} {S : Hp} : rval Try.prog F (zeroValue 116) S = some (Go.Value.nilFunc) := rval_zero Try.zeroValue116
theorem un118 {F : Fr} {h : Hp} {K : TypeDesc → Hp → Prop} : dwp Try.prog F (underlying 118) h K = K (Go.TypeDesc.int Go.IntKind.u64) h := by rw [dwp_underlying, Try.underlying118]; rfl
theorem ru118 {F : Fr} {S : Hp} : rval Try.prog F (underlying 118) S = some (Go.TypeDesc.int Go.IntKind.u64) := rval_un Try.underlying118
theorem sz118 {F : Fr} {h : Hp} {K : Nat → Hp → Prop} : dwp Try.prog F (sizeOf 118) h K = K 1 h := dwp_size_of Try.sizeOf118
theorem rs118 {F : Fr} {S : Hp} : rval Try.prog F (sizeOf 118) S = some 1 := rval_size Try.sizeOf118
theorem ag118 {F : Fr} {h : Hp} {K : Bool → Hp → Prop} : dwp Try.prog F (isAgg 118) h K = K false h := dwp_agg_of Try.isAgg118
theorem ra118 {F : Fr} {S : Hp} : rval Try.prog F (isAgg 118) S = some false := rval_agg Try.isAgg118
theorem ze118 {F : Fr} {h : Hp} {K : Value → Hp → Prop} : dwp Try.prog F (zeroValue 118) h K = K (Go.Value.int Go.IntKind.u64 0) h := dwp_zero_of Try.zeroValue118
theorem rz118 {F : Fr} {S : Hp} : rval Try.prog F (zeroValue 118) S = some (Go.Value.int Go.IntKind.u64 0) := rval_zero Try.zeroValue118
theorem un120 {F : Fr} {h : Hp} {K : TypeDesc → Hp → Prop} : dwp Try.prog F (underlying 120) h K = K (Go.TypeDesc.func #[31, 3, 3, 3] #[] false) h := by rw [dwp_underlying, Try.underlying120]; rfl
theorem ru120 {F : Fr} {S : Hp} : rval Try.prog F (underlying 120) S = some (Go.TypeDesc.func #[31, 3, 3, 3] #[] false) := rval_un Try.underlying120
theorem sz120 {F : Fr} {h : Hp} {K : Nat → Hp → Prop} : dwp Try.prog F (sizeOf 120) h K = K 1 h := dwp_size_of Try.sizeOf120
theorem rs120 {F : Fr} {S : Hp} : rval Try.prog F (sizeOf 120) S = some 1 := rval_size Try.sizeOf120
theorem ag120 {F : Fr} {h : Hp} {K : Bool → Hp → Prop} : dwp Try.prog F (isAgg 120) h K = K false h := dwp_agg_of Try.isAgg120
theorem ra120 {F : Fr} {S : Hp} : rval Try.prog F (isAgg 120) S = some false := rval_agg Try.isAgg120
theorem ze120 {F : Fr} {h : Hp} {K : Value → Hp → Prop} : dwp Try.prog F (zeroValue 120) h K = K Go.Value.nilFunc h := dwp_zero_of Try.zeroValue120
theorem rz120 {F : Fr} {S : Hp} : rval Try.prog F (zeroValue 120) S = some (Go.Value.nilFunc) := rval_zero Try.zeroValue120
theorem un122 {F : Fr} {h : Hp} {K : TypeDesc → Hp → Prop} : dwp Try.prog F (underlying 122) h K = K (Go.TypeDesc.func #[3, 3] #[4] false) h := by rw [dwp_underlying, Try.underlying122]; rfl
theorem ru122 {F : Fr} {S : Hp} : rval Try.prog F (underlying 122) S = some (Go.TypeDesc.func #[3, 3] #[4] false) := rval_un Try.underlying122
theorem sz122 {F : Fr} {h : Hp} {K : Nat → Hp → Prop} : dwp Try.prog F (sizeOf 122) h K = K 1 h := dwp_size_of Try.sizeOf122
theorem rs122 {F : Fr} {S : Hp} : rval Try.prog F (sizeOf 122) S = some 1 := rval_size Try.sizeOf122
theorem ag122 {F : Fr} {h : Hp} {K : Bool → Hp → Prop} : dwp Try.prog F (isAgg 122) h K = K false h := dwp_agg_of Try.isAgg122
theorem ra122 {F : Fr} {S : Hp} : rval Try.prog F (isAgg 122) S = some false := rval_agg Try.isAgg122
theorem ze122 {F : Fr} {h : Hp} {K : Value → Hp → Prop} : dwp Try.prog F (zeroValue 122) h K = K Go.Value.nilFunc h := dwp_zero_of Try.zeroValue122
theorem rz122 {F : Fr} {S : Hp} : rval Try.prog F (zeroValue 122) S = some (Go.Value.nilFunc) := rval_zero Try.zeroValue122
theorem un124 {F : Fr} {h : Hp} {K : TypeDesc → Hp → Prop} : dwp Try.prog F (underlying 124) h K = K (Go.TypeDesc.int Go.IntKind.i64) h := by rw [dwp_underlying, Try.underlying124]; rfl
theorem ru124 {F : Fr} {S : Hp} : rval Try.prog F (underlying 124) S = some (Go.TypeDesc.int Go.IntKind.i64) := rval_un Try.underlying124
theorem sz124 {F : Fr} {h : Hp} {K : Nat → Hp → Prop} : dwp Try.prog F (sizeOf 124) h K = K 1 h := dwp_size_of Try.sizeOf124
theorem rs124 {F : Fr} {S : Hp} : rval Try.prog F (sizeOf 124) S = some 1 := rval_size Try.sizeOf124
theorem ag124 {F : Fr} {h : Hp} {K : Bool → Hp → Prop} : dwp Try.prog F (isAgg 124) h K = K false h := dwp_agg_of Try.isAgg124
theorem ra124 {F : Fr} {S : Hp} : rval Try.prog F (isAgg 124) S = some false := rval_agg Try.isAgg124
theorem ze124 {F : Fr} {h : Hp} {K : Value → Hp → Prop} : dwp Try.prog F (zeroValue 124) h K = K (Go.Value.int Go.IntKind.i64 0) h := dwp_zero_of Try.zeroValue124
theorem rz124 {F : Fr} {S : Hp} : rval Try.prog F (zeroValue 124) S = some (Go.Value.int Go.IntKind.i64 0) := rval_zero Try.zeroValue124
theorem un132 {F : Fr} {h : Hp} {K : TypeDesc → Hp → Prop} : dwp Try.prog F (underlying 132) h K = K (Go.TypeDesc.int Go.IntKind.u32) h := by rw [dwp_underlying, Try.underlying132]; rfl
theorem ru132 {F : Fr} {S : Hp} : rval Try.prog F (underlying 132) S = some (Go.TypeDesc.int Go.IntKind.u32) := rval_un Try.underlying132
theorem sz132 {F : Fr} {h : Hp} {K : Nat → Hp → Prop} : dwp Try.prog F (sizeOf 132) h K = K 1 h := dwp_size_of Try.sizeOf132
theorem rs132 {F : Fr} {S : Hp} : rval Try.prog F (sizeOf 132) S = some 1 := rval_size Try.sizeOf132
theorem ag132 {F : Fr} {h : Hp} {K : Bool → Hp → Prop} : dwp Try.prog F (isAgg 132) h K = K false h := dwp_agg_of Try.isAgg132
theorem ra132 {F : Fr} {S : Hp} : rval Try.prog F (isAgg 132) S = some false := rval_agg Try.isAgg132
theorem ze132 {F : Fr} {h : Hp} {K : Value → Hp → Prop} : dwp Try.prog F (zeroValue 132) h K = K (Go.Value.int Go.IntKind.u32 0) h := dwp_zero_of Try.zeroValue132
theorem rz132 {F : Fr} {S : Hp} : rval Try.prog F (zeroValue 132) S = some (Go.Value.int Go.IntKind.u32 0) := rval_zero Try.zeroValue132
theorem un135 {F : Fr} {h : Hp} {K : TypeDesc → Hp → Prop} : dwp Try.prog F (underlying 135) h K = K (Go.TypeDesc.int Go.IntKind.u64) h := by rw [dwp_underlying, Try.underlying135]; rfl
theorem ru135 {F : Fr} {S : Hp} : rval Try.prog F (underlying 135) S = some (Go.TypeDesc.int Go.IntKind.u64) := rval_un Try.underlying135
theorem sz135 {F : Fr} {h : Hp} {K : Nat → Hp → Prop} : dwp Try.prog F (sizeOf 135) h K = K 1 h := dwp_size_of Try.sizeOf135
theorem rs135 {F : Fr} {S : Hp} : rval Try.prog F (sizeOf 135) S = some 1 := rval_size Try.sizeOf135
theorem ag135 {F : Fr} {h : Hp} {K : Bool → Hp → Prop} : dwp Try.prog F (isAgg 135) h K = K false h := dwp_agg_of Try.isAgg135
theorem ra135 {F : Fr} {S : Hp} : rval Try.prog F (isAgg 135) S = some false := rval_agg Try.isAgg135
theorem ze135 {F : Fr} {h : Hp} {K : Value → Hp → Prop} : dwp Try.prog F (zeroValue 135) h K = K (Go.Value.int Go.IntKind.u64 0) h := dwp_zero_of Try.zeroValue135
theorem rz135 {F : Fr} {S : Hp} : rval Try.prog F (zeroValue 135) S = some (Go.Value.int Go.IntKind.u64 0) := rval_zero Try.zeroValue135
theorem un147 {F : Fr} {h : Hp} {K : TypeDesc → Hp → Prop} : dwp Try.prog F (underlying 147) h K = K (Go.TypeDesc.array 0 16) h := by rw [dwp_underlying, Try.underlying147]; rfl
theorem ru147 {F : Fr} {S : Hp} : rval Try.prog F (underlying 147) S = some (Go.TypeDesc.array 0 16) := rval_un Try.underlying147
theorem ix147 {F : Fr} {h : Hp} {a : Addr} {k : IntKind} {i : Int} {K : Value → Hp → Prop} (h1 : 0 ≤ i) (h2 : i < ((0 : Nat) : Int)) : dwp Try.prog F (Instr.indexAt 147 (.pointer (some a)) (.int k i)) h K = K (.pointer (some (a.add (i.toNat * 1)))) h := dwp_ixA Try.underlying147 Try.sizeOf16 h1 h2
theorem rx147 {F : Fr} {S : Hp} {a : Addr} {k : IntKind} {i : Int} (h1 : 0 ≤ i) (h2 : i < ((0 : Nat) : Int)) : rval Try.prog F (Instr.indexAt 147 (.pointer (some a)) (.int k i)) S = some (.pointer (some (a.add (i.toNat * 1)))) := rval_ixA Try.underlying147 Try.sizeOf16 h1 h2
theorem sz147 {F : Fr} {h : Hp} {K : Nat → Hp → Prop} : dwp Try.prog F (sizeOf 147) h K = K 0 h := dwp_size_of Try.sizeOf147
theorem rs147 {F : Fr} {S : Hp} : rval Try.prog F (sizeOf 147) S = some 0 := rval_size Try.sizeOf147
theorem ag147 {F : Fr} {h : Hp} {K : Bool → Hp → Prop} : dwp Try.prog F (isAgg 147) h K = K true h := dwp_agg_of Try.isAgg147
theorem ra147 {F : Fr} {S : Hp} : rval Try.prog F (isAgg 147) S = some true := rval_agg Try.isAgg147
theorem ze147 {F : Fr} {h : Hp} {K : Value → Hp → Prop} : dwp Try.prog F (zeroValue 147) h K = K (Go.Value.agg #[]) h := dwp_zero_of Try.zeroValue147
theorem rz147 {F : Fr} {S : Hp} : rval Try.prog F (zeroValue 147) S = some (Go.Value.agg #[]) := rval_zero Try.zeroValue147
theorem un149 {F : Fr} {h : Hp} {K : TypeDesc → Hp → Prop} : dwp Try.prog F (underlying 149) h K = K (Go.TypeDesc.struct #[{ name := "_", type := 147, offset := 0, embedded := false, tag := "", pkgPath := "runtime", byteOffset := 0 }]) h := by rw [dwp_underlying, Try.underlying149]; rfl
theorem ru149 {F : Fr} {S : Hp} : rval Try.prog F (underlying 149) S = some (Go.TypeDesc.struct #[{ name := "_", type := 147, offset := 0, embedded := false, tag := "", pkgPath := "runtime", byteOffset := 0 }]) := rval_un Try.underlying149
theorem sz149 {F : Fr} {h : Hp} {K : Nat → Hp → Prop} : dwp Try.prog F (sizeOf 149) h K = K 0 h := dwp_size_of Try.sizeOf149
theorem rs149 {F : Fr} {S : Hp} : rval Try.prog F (sizeOf 149) S = some 0 := rval_size Try.sizeOf149
theorem ag149 {F : Fr} {h : Hp} {K : Bool → Hp → Prop} : dwp Try.prog F (isAgg 149) h K = K true h := dwp_agg_of Try.isAgg149
theorem ra149 {F : Fr} {S : Hp} : rval Try.prog F (isAgg 149) S = some true := rval_agg Try.isAgg149
theorem ze149 {F : Fr} {h : Hp} {K : Value → Hp → Prop} : dwp Try.prog F (zeroValue 149) h K = K (Go.Value.agg #[]) h := dwp_zero_of Try.zeroValue149
theorem rz149 {F : Fr} {S : Hp} : rval Try.prog F (zeroValue 149) S = some (Go.Value.agg #[]) := rval_zero Try.zeroValue149
theorem un150 {F : Fr} {h : Hp} {K : TypeDesc → Hp → Prop} : dwp Try.prog F (underlying 150) h K = K (Go.TypeDesc.int Go.IntKind.u8) h := by rw [dwp_underlying, Try.underlying150]; rfl
theorem ru150 {F : Fr} {S : Hp} : rval Try.prog F (underlying 150) S = some (Go.TypeDesc.int Go.IntKind.u8) := rval_un Try.underlying150
theorem sz150 {F : Fr} {h : Hp} {K : Nat → Hp → Prop} : dwp Try.prog F (sizeOf 150) h K = K 1 h := dwp_size_of Try.sizeOf150
theorem rs150 {F : Fr} {S : Hp} : rval Try.prog F (sizeOf 150) S = some 1 := rval_size Try.sizeOf150
theorem ag150 {F : Fr} {h : Hp} {K : Bool → Hp → Prop} : dwp Try.prog F (isAgg 150) h K = K false h := dwp_agg_of Try.isAgg150
theorem ra150 {F : Fr} {S : Hp} : rval Try.prog F (isAgg 150) S = some false := rval_agg Try.isAgg150
theorem ze150 {F : Fr} {h : Hp} {K : Value → Hp → Prop} : dwp Try.prog F (zeroValue 150) h K = K (Go.Value.int Go.IntKind.u8 0) h := dwp_zero_of Try.zeroValue150
theorem rz150 {F : Fr} {S : Hp} : rval Try.prog F (zeroValue 150) S = some (Go.Value.int Go.IntKind.u8 0) := rval_zero Try.zeroValue150
theorem en4 {F : Fr} {h : Hp} {xs : Array Value} {K : Next → Hp → Prop} : dwp Try.prog F (callFunc 4 xs) h K = K (.enter 4 xs) h := dwp_callFunc (by unfold entB; rw [Try.func4]; rfl)
theorem re4 {F : Fr} {S : Hp} {xs : Array Value} : rval Try.prog F (callFunc 4 xs) S = some (.enter 4 xs) := rval_callFunc (by unfold entB; rw [Try.func4]; rfl)
theorem ni4 : Try.prog.inits.idxOf? 4 = none := by kernel_rfl
theorem en5 {F : Fr} {h : Hp} {xs : Array Value} {K : Next → Hp → Prop} : dwp Try.prog F (callFunc 5 xs) h K = K (.enter 5 xs) h := dwp_callFunc (by unfold entB; rw [Try.func5]; rfl)
theorem re5 {F : Fr} {S : Hp} {xs : Array Value} : rval Try.prog F (callFunc 5 xs) S = some (.enter 5 xs) := rval_callFunc (by unfold entB; rw [Try.func5]; rfl)
theorem ni5 : Try.prog.inits.idxOf? 5 = none := by kernel_rfl
theorem en6 {F : Fr} {h : Hp} {xs : Array Value} {K : Next → Hp → Prop} : dwp Try.prog F (callFunc 6 xs) h K = K (.enter 6 xs) h := dwp_callFunc (by unfold entB; rw [Try.func6]; rfl)
theorem re6 {F : Fr} {S : Hp} {xs : Array Value} : rval Try.prog F (callFunc 6 xs) S = some (.enter 6 xs) := rval_callFunc (by unfold entB; rw [Try.func6]; rfl)
theorem ni6 : Try.prog.inits.idxOf? 6 = none := by kernel_rfl
theorem en7 {F : Fr} {h : Hp} {xs : Array Value} {K : Next → Hp → Prop} : dwp Try.prog F (callFunc 7 xs) h K = K (.enter 7 xs) h := dwp_callFunc (by unfold entB; rw [Try.func7]; rfl)
theorem re7 {F : Fr} {S : Hp} {xs : Array Value} : rval Try.prog F (callFunc 7 xs) S = some (.enter 7 xs) := rval_callFunc (by unfold entB; rw [Try.func7]; rfl)
theorem ni7 : Try.prog.inits.idxOf? 7 = none := by kernel_rfl
theorem en9 {F : Fr} {h : Hp} {xs : Array Value} {K : Next → Hp → Prop} : dwp Try.prog F (callFunc 9 xs) h K = K (.enter 9 xs) h := dwp_callFunc (by unfold entB; rw [Try.func9]; rfl)
theorem re9 {F : Fr} {S : Hp} {xs : Array Value} : rval Try.prog F (callFunc 9 xs) S = some (.enter 9 xs) := rval_callFunc (by unfold entB; rw [Try.func9]; rfl)
theorem ni9 : Try.prog.inits.idxOf? 9 = none := by kernel_rfl
theorem en10 {F : Fr} {h : Hp} {xs : Array Value} {K : Next → Hp → Prop} : dwp Try.prog F (callFunc 10 xs) h K = K (.enter 10 xs) h := dwp_callFunc (by unfold entB; rw [Try.func10]; rfl)
theorem re10 {F : Fr} {S : Hp} {xs : Array Value} : rval Try.prog F (callFunc 10 xs) S = some (.enter 10 xs) := rval_callFunc (by unfold entB; rw [Try.func10]; rfl)
theorem ni10 : Try.prog.inits.idxOf? 10 = none := by kernel_rfl
theorem en11 {F : Fr} {h : Hp} {xs : Array Value} {K : Next → Hp → Prop} : dwp Try.prog F (callFunc 11 xs) h K = K (.enter 11 xs) h := dwp_callFunc (by unfold entB; rw [Try.func11]; rfl)
theorem re11 {F : Fr} {S : Hp} {xs : Array Value} : rval Try.prog F (callFunc 11 xs) S = some (.enter 11 xs) := rval_callFunc (by unfold entB; rw [Try.func11]; rfl)
theorem ni11 : Try.prog.inits.idxOf? 11 = none := by kernel_rfl
theorem en12 {F : Fr} {h : Hp} {xs : Array Value} {K : Next → Hp → Prop} : dwp Try.prog F (callFunc 12 xs) h K = K (.enter 12 xs) h := dwp_callFunc (by unfold entB; rw [Try.func12]; rfl)
theorem re12 {F : Fr} {S : Hp} {xs : Array Value} : rval Try.prog F (callFunc 12 xs) S = some (.enter 12 xs) := rval_callFunc (by unfold entB; rw [Try.func12]; rfl)
theorem ni12 : Try.prog.inits.idxOf? 12 = none := by kernel_rfl
theorem en13 {F : Fr} {h : Hp} {xs : Array Value} {K : Next → Hp → Prop} : dwp Try.prog F (callFunc 13 xs) h K = K (.enter 13 xs) h := dwp_callFunc (by unfold entB; rw [Try.func13]; rfl)
theorem re13 {F : Fr} {S : Hp} {xs : Array Value} : rval Try.prog F (callFunc 13 xs) S = some (.enter 13 xs) := rval_callFunc (by unfold entB; rw [Try.func13]; rfl)
theorem ni13 : Try.prog.inits.idxOf? 13 = none := by kernel_rfl
theorem en14 {F : Fr} {h : Hp} {xs : Array Value} {K : Next → Hp → Prop} : dwp Try.prog F (callFunc 14 xs) h K = K (.enter 14 xs) h := dwp_callFunc (by unfold entB; rw [Try.func14]; rfl)
theorem re14 {F : Fr} {S : Hp} {xs : Array Value} : rval Try.prog F (callFunc 14 xs) S = some (.enter 14 xs) := rval_callFunc (by unfold entB; rw [Try.func14]; rfl)
theorem ni14 : Try.prog.inits.idxOf? 14 = none := by kernel_rfl
theorem en15 {F : Fr} {h : Hp} {xs : Array Value} {K : Next → Hp → Prop} : dwp Try.prog F (callFunc 15 xs) h K = K (.enter 15 xs) h := dwp_callFunc (by unfold entB; rw [Try.func15]; rfl)
theorem re15 {F : Fr} {S : Hp} {xs : Array Value} : rval Try.prog F (callFunc 15 xs) S = some (.enter 15 xs) := rval_callFunc (by unfold entB; rw [Try.func15]; rfl)
theorem ni15 : Try.prog.inits.idxOf? 15 = none := by kernel_rfl
theorem en16 {F : Fr} {h : Hp} {xs : Array Value} {K : Next → Hp → Prop} : dwp Try.prog F (callFunc 16 xs) h K = K (.enter 16 xs) h := dwp_callFunc (by unfold entB; rw [Try.func16]; rfl)
theorem re16 {F : Fr} {S : Hp} {xs : Array Value} : rval Try.prog F (callFunc 16 xs) S = some (.enter 16 xs) := rval_callFunc (by unfold entB; rw [Try.func16]; rfl)
theorem ni16 : Try.prog.inits.idxOf? 16 = none := by kernel_rfl
theorem en17 {F : Fr} {h : Hp} {xs : Array Value} {K : Next → Hp → Prop} : dwp Try.prog F (callFunc 17 xs) h K = K (.enter 17 xs) h := dwp_callFunc (by unfold entB; rw [Try.func17]; rfl)
theorem re17 {F : Fr} {S : Hp} {xs : Array Value} : rval Try.prog F (callFunc 17 xs) S = some (.enter 17 xs) := rval_callFunc (by unfold entB; rw [Try.func17]; rfl)
theorem ni17 : Try.prog.inits.idxOf? 17 = none := by kernel_rfl
theorem en18 {F : Fr} {h : Hp} {xs : Array Value} {K : Next → Hp → Prop} : dwp Try.prog F (callFunc 18 xs) h K = K (.enter 18 xs) h := dwp_callFunc (by unfold entB; rw [Try.func18]; rfl)
theorem re18 {F : Fr} {S : Hp} {xs : Array Value} : rval Try.prog F (callFunc 18 xs) S = some (.enter 18 xs) := rval_callFunc (by unfold entB; rw [Try.func18]; rfl)
theorem ni18 : Try.prog.inits.idxOf? 18 = none := by kernel_rfl
theorem en19 {F : Fr} {h : Hp} {xs : Array Value} {K : Next → Hp → Prop} : dwp Try.prog F (callFunc 19 xs) h K = K (.enter 19 xs) h := dwp_callFunc (by unfold entB; rw [Try.func19]; rfl)
theorem re19 {F : Fr} {S : Hp} {xs : Array Value} : rval Try.prog F (callFunc 19 xs) S = some (.enter 19 xs) := rval_callFunc (by unfold entB; rw [Try.func19]; rfl)
theorem ni19 : Try.prog.inits.idxOf? 19 = none := by kernel_rfl
theorem en20 {F : Fr} {h : Hp} {xs : Array Value} {K : Next → Hp → Prop} : dwp Try.prog F (callFunc 20 xs) h K = K (.enter 20 xs) h := dwp_callFunc (by unfold entB; rw [Try.func20]; rfl)
theorem re20 {F : Fr} {S : Hp} {xs : Array Value} : rval Try.prog F (callFunc 20 xs) S = some (.enter 20 xs) := rval_callFunc (by unfold entB; rw [Try.func20]; rfl)
theorem ni20 : Try.prog.inits.idxOf? 20 = none := by kernel_rfl
theorem en24 {F : Fr} {h : Hp} {xs : Array Value} {K : Next → Hp → Prop} : dwp Try.prog F (callFunc 24 xs) h K = K (.enter 24 xs) h := dwp_callFunc (by unfold entB; rw [Try.func24]; rfl)
theorem re24 {F : Fr} {S : Hp} {xs : Array Value} : rval Try.prog F (callFunc 24 xs) S = some (.enter 24 xs) := rval_callFunc (by unfold entB; rw [Try.func24]; rfl)
theorem ni24 : Try.prog.inits.idxOf? 24 = none := by kernel_rfl
theorem en25 {F : Fr} {h : Hp} {xs : Array Value} {K : Next → Hp → Prop} : dwp Try.prog F (callFunc 25 xs) h K = K (.enter 25 xs) h := dwp_callFunc (by unfold entB; rw [Try.func25]; rfl)
theorem re25 {F : Fr} {S : Hp} {xs : Array Value} : rval Try.prog F (callFunc 25 xs) S = some (.enter 25 xs) := rval_callFunc (by unfold entB; rw [Try.func25]; rfl)
theorem ni25 : Try.prog.inits.idxOf? 25 = none := by kernel_rfl
theorem en26 {F : Fr} {h : Hp} {xs : Array Value} {K : Next → Hp → Prop} : dwp Try.prog F (callFunc 26 xs) h K = K (.enter 26 xs) h := dwp_callFunc (by unfold entB; rw [Try.func26]; rfl)
theorem re26 {F : Fr} {S : Hp} {xs : Array Value} : rval Try.prog F (callFunc 26 xs) S = some (.enter 26 xs) := rval_callFunc (by unfold entB; rw [Try.func26]; rfl)
theorem ni26 : Try.prog.inits.idxOf? 26 = none := by kernel_rfl
theorem en27 {F : Fr} {h : Hp} {xs : Array Value} {K : Next → Hp → Prop} : dwp Try.prog F (callFunc 27 xs) h K = K (.enter 27 xs) h := dwp_callFunc (by unfold entB; rw [Try.func27]; rfl)
theorem re27 {F : Fr} {S : Hp} {xs : Array Value} : rval Try.prog F (callFunc 27 xs) S = some (.enter 27 xs) := rval_callFunc (by unfold entB; rw [Try.func27]; rfl)
theorem ni27 : Try.prog.inits.idxOf? 27 = none := by kernel_rfl
theorem en28 {F : Fr} {h : Hp} {xs : Array Value} {K : Next → Hp → Prop} : dwp Try.prog F (callFunc 28 xs) h K = K (.enter 28 xs) h := dwp_callFunc (by unfold entB; rw [Try.func28]; rfl)
theorem re28 {F : Fr} {S : Hp} {xs : Array Value} : rval Try.prog F (callFunc 28 xs) S = some (.enter 28 xs) := rval_callFunc (by unfold entB; rw [Try.func28]; rfl)
theorem ni28 : Try.prog.inits.idxOf? 28 = none := by kernel_rfl
theorem en29 {F : Fr} {h : Hp} {xs : Array Value} {K : Next → Hp → Prop} : dwp Try.prog F (callFunc 29 xs) h K = K (.enter 29 xs) h := dwp_callFunc (by unfold entB; rw [Try.func29]; rfl)
theorem re29 {F : Fr} {S : Hp} {xs : Array Value} : rval Try.prog F (callFunc 29 xs) S = some (.enter 29 xs) := rval_callFunc (by unfold entB; rw [Try.func29]; rfl)
theorem ni29 : Try.prog.inits.idxOf? 29 = none := by kernel_rfl
theorem en30 {F : Fr} {h : Hp} {xs : Array Value} {K : Next → Hp → Prop} : dwp Try.prog F (callFunc 30 xs) h K = K (.enter 30 xs) h := dwp_callFunc (by unfold entB; rw [Try.func30]; rfl)
theorem re30 {F : Fr} {S : Hp} {xs : Array Value} : rval Try.prog F (callFunc 30 xs) S = some (.enter 30 xs) := rval_callFunc (by unfold entB; rw [Try.func30]; rfl)
theorem ni30 : Try.prog.inits.idxOf? 30 = none := by kernel_rfl
theorem en31 {F : Fr} {h : Hp} {xs : Array Value} {K : Next → Hp → Prop} : dwp Try.prog F (callFunc 31 xs) h K = K (.enter 31 xs) h := dwp_callFunc (by unfold entB; rw [Try.func31]; rfl)
theorem re31 {F : Fr} {S : Hp} {xs : Array Value} : rval Try.prog F (callFunc 31 xs) S = some (.enter 31 xs) := rval_callFunc (by unfold entB; rw [Try.func31]; rfl)
theorem ni31 : Try.prog.inits.idxOf? 31 = none := by kernel_rfl
theorem en32 {F : Fr} {h : Hp} {xs : Array Value} {K : Next → Hp → Prop} : dwp Try.prog F (callFunc 32 xs) h K = K (.enter 32 xs) h := dwp_callFunc (by unfold entB; rw [Try.func32]; rfl)
theorem re32 {F : Fr} {S : Hp} {xs : Array Value} : rval Try.prog F (callFunc 32 xs) S = some (.enter 32 xs) := rval_callFunc (by unfold entB; rw [Try.func32]; rfl)
theorem ni32 : Try.prog.inits.idxOf? 32 = none := by kernel_rfl
theorem en33 {F : Fr} {h : Hp} {xs : Array Value} {K : Next → Hp → Prop} : dwp Try.prog F (callFunc 33 xs) h K = K (.enter 33 xs) h := dwp_callFunc (by unfold entB; rw [Try.func33]; rfl)
theorem re33 {F : Fr} {S : Hp} {xs : Array Value} : rval Try.prog F (callFunc 33 xs) S = some (.enter 33 xs) := rval_callFunc (by unfold entB; rw [Try.func33]; rfl)
theorem ni33 : Try.prog.inits.idxOf? 33 = none := by kernel_rfl
theorem en34 {F : Fr} {h : Hp} {xs : Array Value} {K : Next → Hp → Prop} : dwp Try.prog F (callFunc 34 xs) h K = K (.enter 34 xs) h := dwp_callFunc (by unfold entB; rw [Try.func34]; rfl)
theorem re34 {F : Fr} {S : Hp} {xs : Array Value} : rval Try.prog F (callFunc 34 xs) S = some (.enter 34 xs) := rval_callFunc (by unfold entB; rw [Try.func34]; rfl)
theorem ni34 : Try.prog.inits.idxOf? 34 = none := by kernel_rfl
theorem en35 {F : Fr} {h : Hp} {xs : Array Value} {K : Next → Hp → Prop} : dwp Try.prog F (callFunc 35 xs) h K = K (.enter 35 xs) h := dwp_callFunc (by unfold entB; rw [Try.func35]; rfl)
theorem re35 {F : Fr} {S : Hp} {xs : Array Value} : rval Try.prog F (callFunc 35 xs) S = some (.enter 35 xs) := rval_callFunc (by unfold entB; rw [Try.func35]; rfl)
theorem ni35 : Try.prog.inits.idxOf? 35 = none := by kernel_rfl
theorem en36 {F : Fr} {h : Hp} {xs : Array Value} {K : Next → Hp → Prop} : dwp Try.prog F (callFunc 36 xs) h K = K (.enter 36 xs) h := dwp_callFunc (by unfold entB; rw [Try.func36]; rfl)
theorem re36 {F : Fr} {S : Hp} {xs : Array Value} : rval Try.prog F (callFunc 36 xs) S = some (.enter 36 xs) := rval_callFunc (by unfold entB; rw [Try.func36]; rfl)
theorem ni36 : Try.prog.inits.idxOf? 36 = none := by kernel_rfl
theorem en37 {F : Fr} {h : Hp} {xs : Array Value} {K : Next → Hp → Prop} : dwp Try.prog F (callFunc 37 xs) h K = K (.enter 37 xs) h := dwp_callFunc (by unfold entB; rw [Try.func37]; rfl)
theorem re37 {F : Fr} {S : Hp} {xs : Array Value} : rval Try.prog F (callFunc 37 xs) S = some (.enter 37 xs) := rval_callFunc (by unfold entB; rw [Try.func37]; rfl)
theorem ni37 : Try.prog.inits.idxOf? 37 = none := by kernel_rfl
theorem en38 {F : Fr} {h : Hp} {xs : Array Value} {K : Next → Hp → Prop} : dwp Try.prog F (callFunc 38 xs) h K = K (.enter 38 xs) h := dwp_callFunc (by unfold entB; rw [Try.func38]; rfl)
theorem re38 {F : Fr} {S : Hp} {xs : Array Value} : rval Try.prog F (callFunc 38 xs) S = some (.enter 38 xs) := rval_callFunc (by unfold entB; rw [Try.func38]; rfl)
theorem ni38 : Try.prog.inits.idxOf? 38 = none := by kernel_rfl
theorem en39 {F : Fr} {h : Hp} {xs : Array Value} {K : Next → Hp → Prop} : dwp Try.prog F (callFunc 39 xs) h K = K (.enter 39 xs) h := dwp_callFunc (by unfold entB; rw [Try.func39]; rfl)
theorem re39 {F : Fr} {S : Hp} {xs : Array Value} : rval Try.prog F (callFunc 39 xs) S = some (.enter 39 xs) := rval_callFunc (by unfold entB; rw [Try.func39]; rfl)
theorem ni39 : Try.prog.inits.idxOf? 39 = none := by kernel_rfl
theorem en40 {F : Fr} {h : Hp} {xs : Array Value} {K : Next → Hp → Prop} : dwp Try.prog F (callFunc 40 xs) h K = K (.enter 40 xs) h := dwp_callFunc (by unfold entB; rw [Try.func40]; rfl)
theorem re40 {F : Fr} {S : Hp} {xs : Array Value} : rval Try.prog F (callFunc 40 xs) S = some (.enter 40 xs) := rval_callFunc (by unfold entB; rw [Try.func40]; rfl)
theorem ni40 : Try.prog.inits.idxOf? 40 = none := by kernel_rfl
theorem en41 {F : Fr} {h : Hp} {xs : Array Value} {K : Next → Hp → Prop} : dwp Try.prog F (callFunc 41 xs) h K = K (.enter 41 xs) h := dwp_callFunc (by unfold entB; rw [Try.func41]; rfl)
theorem re41 {F : Fr} {S : Hp} {xs : Array Value} : rval Try.prog F (callFunc 41 xs) S = some (.enter 41 xs) := rval_callFunc (by unfold entB; rw [Try.func41]; rfl)
theorem ni41 : Try.prog.inits.idxOf? 41 = none := by kernel_rfl
theorem en42 {F : Fr} {h : Hp} {xs : Array Value} {K : Next → Hp → Prop} : dwp Try.prog F (callFunc 42 xs) h K = K (.enter 42 xs) h := dwp_callFunc (by unfold entB; rw [Try.func42]; rfl)
theorem re42 {F : Fr} {S : Hp} {xs : Array Value} : rval Try.prog F (callFunc 42 xs) S = some (.enter 42 xs) := rval_callFunc (by unfold entB; rw [Try.func42]; rfl)
theorem ni42 : Try.prog.inits.idxOf? 42 = none := by kernel_rfl
theorem en43 {F : Fr} {h : Hp} {xs : Array Value} {K : Next → Hp → Prop} : dwp Try.prog F (callFunc 43 xs) h K = K (.enter 43 xs) h := dwp_callFunc (by unfold entB; rw [Try.func43]; rfl)
theorem re43 {F : Fr} {S : Hp} {xs : Array Value} : rval Try.prog F (callFunc 43 xs) S = some (.enter 43 xs) := rval_callFunc (by unfold entB; rw [Try.func43]; rfl)
theorem ni43 : Try.prog.inits.idxOf? 43 = none := by kernel_rfl
theorem en44 {F : Fr} {h : Hp} {xs : Array Value} {K : Next → Hp → Prop} : dwp Try.prog F (callFunc 44 xs) h K = K (.enter 44 xs) h := dwp_callFunc (by unfold entB; rw [Try.func44]; rfl)
theorem re44 {F : Fr} {S : Hp} {xs : Array Value} : rval Try.prog F (callFunc 44 xs) S = some (.enter 44 xs) := rval_callFunc (by unfold entB; rw [Try.func44]; rfl)
theorem ni44 : Try.prog.inits.idxOf? 44 = none := by kernel_rfl
theorem en45 {F : Fr} {h : Hp} {xs : Array Value} {K : Next → Hp → Prop} : dwp Try.prog F (callFunc 45 xs) h K = K (.enter 45 xs) h := dwp_callFunc (by unfold entB; rw [Try.func45]; rfl)
theorem re45 {F : Fr} {S : Hp} {xs : Array Value} : rval Try.prog F (callFunc 45 xs) S = some (.enter 45 xs) := rval_callFunc (by unfold entB; rw [Try.func45]; rfl)
theorem ni45 : Try.prog.inits.idxOf? 45 = none := by kernel_rfl
theorem en46 {F : Fr} {h : Hp} {xs : Array Value} {K : Next → Hp → Prop} : dwp Try.prog F (callFunc 46 xs) h K = K (.enter 46 xs) h := dwp_callFunc (by unfold entB; rw [Try.func46]; rfl)
theorem re46 {F : Fr} {S : Hp} {xs : Array Value} : rval Try.prog F (callFunc 46 xs) S = some (.enter 46 xs) := rval_callFunc (by unfold entB; rw [Try.func46]; rfl)
theorem ni46 : Try.prog.inits.idxOf? 46 = none := by kernel_rfl
theorem en48 {F : Fr} {h : Hp} {xs : Array Value} {K : Next → Hp → Prop} : dwp Try.prog F (callFunc 48 xs) h K = K (.enter 48 xs) h := dwp_callFunc (by unfold entB; rw [Try.func48]; rfl)
theorem re48 {F : Fr} {S : Hp} {xs : Array Value} : rval Try.prog F (callFunc 48 xs) S = some (.enter 48 xs) := rval_callFunc (by unfold entB; rw [Try.func48]; rfl)
theorem ni48 : Try.prog.inits.idxOf? 48 = none := by kernel_rfl
theorem en49 {F : Fr} {h : Hp} {xs : Array Value} {K : Next → Hp → Prop} : dwp Try.prog F (callFunc 49 xs) h K = K (.enter 49 xs) h := dwp_callFunc (by unfold entB; rw [Try.func49]; rfl)
theorem re49 {F : Fr} {S : Hp} {xs : Array Value} : rval Try.prog F (callFunc 49 xs) S = some (.enter 49 xs) := rval_callFunc (by unfold entB; rw [Try.func49]; rfl)
theorem ni49 : Try.prog.inits.idxOf? 49 = none := by kernel_rfl
theorem en50 {F : Fr} {h : Hp} {xs : Array Value} {K : Next → Hp → Prop} : dwp Try.prog F (callFunc 50 xs) h K = K (.enter 50 xs) h := dwp_callFunc (by unfold entB; rw [Try.func50]; rfl)
theorem re50 {F : Fr} {S : Hp} {xs : Array Value} : rval Try.prog F (callFunc 50 xs) S = some (.enter 50 xs) := rval_callFunc (by unfold entB; rw [Try.func50]; rfl)
theorem ni50 : Try.prog.inits.idxOf? 50 = none := by kernel_rfl
theorem en51 {F : Fr} {h : Hp} {xs : Array Value} {K : Next → Hp → Prop} : dwp Try.prog F (callFunc 51 xs) h K = K (.enter 51 xs) h := dwp_callFunc (by unfold entB; rw [Try.func51]; rfl)
theorem re51 {F : Fr} {S : Hp} {xs : Array Value} : rval Try.prog F (callFunc 51 xs) S = some (.enter 51 xs) := rval_callFunc (by unfold entB; rw [Try.func51]; rfl)
theorem ni51 : Try.prog.inits.idxOf? 51 = none := by kernel_rfl
theorem en52 {F : Fr} {h : Hp} {xs : Array Value} {K : Next → Hp → Prop} : dwp Try.prog F (callFunc 52 xs) h K = K (.enter 52 xs) h := dwp_callFunc (by unfold entB; rw [Try.func52]; rfl)
theorem re52 {F : Fr} {S : Hp} {xs : Array Value} : rval Try.prog F (callFunc 52 xs) S = some (.enter 52 xs) := rval_callFunc (by unfold entB; rw [Try.func52]; rfl)
theorem ni52 : Try.prog.inits.idxOf? 52 = none := by kernel_rfl
theorem en53 {F : Fr} {h : Hp} {xs : Array Value} {K : Next → Hp → Prop} : dwp Try.prog F (callFunc 53 xs) h K = K (.enter 53 xs) h := dwp_callFunc (by unfold entB; rw [Try.func53]; rfl)
theorem re53 {F : Fr} {S : Hp} {xs : Array Value} : rval Try.prog F (callFunc 53 xs) S = some (.enter 53 xs) := rval_callFunc (by unfold entB; rw [Try.func53]; rfl)
theorem ni53 : Try.prog.inits.idxOf? 53 = none := by kernel_rfl
theorem en54 {F : Fr} {h : Hp} {xs : Array Value} {K : Next → Hp → Prop} : dwp Try.prog F (callFunc 54 xs) h K = K (.enter 54 xs) h := dwp_callFunc (by unfold entB; rw [Try.func54]; rfl)
theorem re54 {F : Fr} {S : Hp} {xs : Array Value} : rval Try.prog F (callFunc 54 xs) S = some (.enter 54 xs) := rval_callFunc (by unfold entB; rw [Try.func54]; rfl)
theorem ni54 : Try.prog.inits.idxOf? 54 = none := by kernel_rfl
theorem en55 {F : Fr} {h : Hp} {xs : Array Value} {K : Next → Hp → Prop} : dwp Try.prog F (callFunc 55 xs) h K = K (.enter 55 xs) h := dwp_callFunc (by unfold entB; rw [Try.func55]; rfl)
theorem re55 {F : Fr} {S : Hp} {xs : Array Value} : rval Try.prog F (callFunc 55 xs) S = some (.enter 55 xs) := rval_callFunc (by unfold entB; rw [Try.func55]; rfl)
theorem ni55 : Try.prog.inits.idxOf? 55 = none := by kernel_rfl
theorem en56 {F : Fr} {h : Hp} {xs : Array Value} {K : Next → Hp → Prop} : dwp Try.prog F (callFunc 56 xs) h K = K (.enter 56 xs) h := dwp_callFunc (by unfold entB; rw [Try.func56]; rfl)
theorem re56 {F : Fr} {S : Hp} {xs : Array Value} : rval Try.prog F (callFunc 56 xs) S = some (.enter 56 xs) := rval_callFunc (by unfold entB; rw [Try.func56]; rfl)
theorem ni56 : Try.prog.inits.idxOf? 56 = none := by kernel_rfl
theorem en57 {F : Fr} {h : Hp} {xs : Array Value} {K : Next → Hp → Prop} : dwp Try.prog F (callFunc 57 xs) h K = K (.enter 57 xs) h := dwp_callFunc (by unfold entB; rw [Try.func57]; rfl)
theorem re57 {F : Fr} {S : Hp} {xs : Array Value} : rval Try.prog F (callFunc 57 xs) S = some (.enter 57 xs) := rval_callFunc (by unfold entB; rw [Try.func57]; rfl)
theorem ni57 : Try.prog.inits.idxOf? 57 = none := by kernel_rfl
theorem en58 {F : Fr} {h : Hp} {xs : Array Value} {K : Next → Hp → Prop} : dwp Try.prog F (callFunc 58 xs) h K = K (.enter 58 xs) h := dwp_callFunc (by unfold entB; rw [Try.func58]; rfl)
theorem re58 {F : Fr} {S : Hp} {xs : Array Value} : rval Try.prog F (callFunc 58 xs) S = some (.enter 58 xs) := rval_callFunc (by unfold entB; rw [Try.func58]; rfl)
theorem ni58 : Try.prog.inits.idxOf? 58 = none := by kernel_rfl
theorem en59 {F : Fr} {h : Hp} {xs : Array Value} {K : Next → Hp → Prop} : dwp Try.prog F (callFunc 59 xs) h K = K (.enter 59 xs) h := dwp_callFunc (by unfold entB; rw [Try.func59]; rfl)
theorem re59 {F : Fr} {S : Hp} {xs : Array Value} : rval Try.prog F (callFunc 59 xs) S = some (.enter 59 xs) := rval_callFunc (by unfold entB; rw [Try.func59]; rfl)
theorem ni59 : Try.prog.inits.idxOf? 59 = none := by kernel_rfl
theorem en60 {F : Fr} {h : Hp} {xs : Array Value} {K : Next → Hp → Prop} : dwp Try.prog F (callFunc 60 xs) h K = K (.enter 60 xs) h := dwp_callFunc (by unfold entB; rw [Try.func60]; rfl)
theorem re60 {F : Fr} {S : Hp} {xs : Array Value} : rval Try.prog F (callFunc 60 xs) S = some (.enter 60 xs) := rval_callFunc (by unfold entB; rw [Try.func60]; rfl)
theorem ni60 : Try.prog.inits.idxOf? 60 = none := by kernel_rfl
theorem en61 {F : Fr} {h : Hp} {xs : Array Value} {K : Next → Hp → Prop} : dwp Try.prog F (callFunc 61 xs) h K = K (.enter 61 xs) h := dwp_callFunc (by unfold entB; rw [Try.func61]; rfl)
theorem re61 {F : Fr} {S : Hp} {xs : Array Value} : rval Try.prog F (callFunc 61 xs) S = some (.enter 61 xs) := rval_callFunc (by unfold entB; rw [Try.func61]; rfl)
theorem ni61 : Try.prog.inits.idxOf? 61 = none := by kernel_rfl
theorem en62 {F : Fr} {h : Hp} {xs : Array Value} {K : Next → Hp → Prop} : dwp Try.prog F (callFunc 62 xs) h K = K (.enter 62 xs) h := dwp_callFunc (by unfold entB; rw [Try.func62]; rfl)
theorem re62 {F : Fr} {S : Hp} {xs : Array Value} : rval Try.prog F (callFunc 62 xs) S = some (.enter 62 xs) := rval_callFunc (by unfold entB; rw [Try.func62]; rfl)
theorem ni62 : Try.prog.inits.idxOf? 62 = none := by kernel_rfl
theorem en63 {F : Fr} {h : Hp} {xs : Array Value} {K : Next → Hp → Prop} : dwp Try.prog F (callFunc 63 xs) h K = K (.enter 63 xs) h := dwp_callFunc (by unfold entB; rw [Try.func63]; rfl)
theorem re63 {F : Fr} {S : Hp} {xs : Array Value} : rval Try.prog F (callFunc 63 xs) S = some (.enter 63 xs) := rval_callFunc (by unfold entB; rw [Try.func63]; rfl)
theorem ni63 : Try.prog.inits.idxOf? 63 = none := by kernel_rfl
theorem en64 {F : Fr} {h : Hp} {xs : Array Value} {K : Next → Hp → Prop} : dwp Try.prog F (callFunc 64 xs) h K = K (.enter 64 xs) h := dwp_callFunc (by unfold entB; rw [Try.func64]; rfl)
theorem re64 {F : Fr} {S : Hp} {xs : Array Value} : rval Try.prog F (callFunc 64 xs) S = some (.enter 64 xs) := rval_callFunc (by unfold entB; rw [Try.func64]; rfl)
theorem ni64 : Try.prog.inits.idxOf? 64 = none := by kernel_rfl
theorem en67 {F : Fr} {h : Hp} {xs : Array Value} {K : Next → Hp → Prop} : dwp Try.prog F (callFunc 67 xs) h K = K (.enter 67 xs) h := dwp_callFunc (by unfold entB; rw [Try.func67]; rfl)
theorem re67 {F : Fr} {S : Hp} {xs : Array Value} : rval Try.prog F (callFunc 67 xs) S = some (.enter 67 xs) := rval_callFunc (by unfold entB; rw [Try.func67]; rfl)
theorem ni67 : Try.prog.inits.idxOf? 67 = none := by kernel_rfl
theorem en68 {F : Fr} {h : Hp} {xs : Array Value} {K : Next → Hp → Prop} : dwp Try.prog F (callFunc 68 xs) h K = K (.enter 68 xs) h := dwp_callFunc (by unfold entB; rw [Try.func68]; rfl)
theorem re68 {F : Fr} {S : Hp} {xs : Array Value} : rval Try.prog F (callFunc 68 xs) S = some (.enter 68 xs) := rval_callFunc (by unfold entB; rw [Try.func68]; rfl)
theorem ni68 : Try.prog.inits.idxOf? 68 = none := by kernel_rfl
theorem en69 {F : Fr} {h : Hp} {xs : Array Value} {K : Next → Hp → Prop} : dwp Try.prog F (callFunc 69 xs) h K = K (.enter 69 xs) h := dwp_callFunc (by unfold entB; rw [Try.func69]; rfl)
theorem re69 {F : Fr} {S : Hp} {xs : Array Value} : rval Try.prog F (callFunc 69 xs) S = some (.enter 69 xs) := rval_callFunc (by unfold entB; rw [Try.func69]; rfl)
theorem ni69 : Try.prog.inits.idxOf? 69 = none := by kernel_rfl
theorem en70 {F : Fr} {h : Hp} {xs : Array Value} {K : Next → Hp → Prop} : dwp Try.prog F (callFunc 70 xs) h K = K (.enter 70 xs) h := dwp_callFunc (by unfold entB; rw [Try.func70]; rfl)
theorem re70 {F : Fr} {S : Hp} {xs : Array Value} : rval Try.prog F (callFunc 70 xs) S = some (.enter 70 xs) := rval_callFunc (by unfold entB; rw [Try.func70]; rfl)
theorem ni70 : Try.prog.inits.idxOf? 70 = none := by kernel_rfl
theorem en71 {F : Fr} {h : Hp} {xs : Array Value} {K : Next → Hp → Prop} : dwp Try.prog F (callFunc 71 xs) h K = K (.enter 71 xs) h := dwp_callFunc (by unfold entB; rw [Try.func71]; rfl)
theorem re71 {F : Fr} {S : Hp} {xs : Array Value} : rval Try.prog F (callFunc 71 xs) S = some (.enter 71 xs) := rval_callFunc (by unfold entB; rw [Try.func71]; rfl)
theorem ni71 : Try.prog.inits.idxOf? 71 = none := by kernel_rfl
theorem en72 {F : Fr} {h : Hp} {xs : Array Value} {K : Next → Hp → Prop} : dwp Try.prog F (callFunc 72 xs) h K = K (.enter 72 xs) h := dwp_callFunc (by unfold entB; rw [Try.func72]; rfl)
theorem re72 {F : Fr} {S : Hp} {xs : Array Value} : rval Try.prog F (callFunc 72 xs) S = some (.enter 72 xs) := rval_callFunc (by unfold entB; rw [Try.func72]; rfl)
theorem ni72 : Try.prog.inits.idxOf? 72 = none := by kernel_rfl
theorem en73 {F : Fr} {h : Hp} {xs : Array Value} {K : Next → Hp → Prop} : dwp Try.prog F (callFunc 73 xs) h K = K (.enter 73 xs) h := dwp_callFunc (by unfold entB; rw [Try.func73]; rfl)
theorem re73 {F : Fr} {S : Hp} {xs : Array Value} : rval Try.prog F (callFunc 73 xs) S = some (.enter 73 xs) := rval_callFunc (by unfold entB; rw [Try.func73]; rfl)
theorem ni73 : Try.prog.inits.idxOf? 73 = none := by kernel_rfl
theorem en74 {F : Fr} {h : Hp} {xs : Array Value} {K : Next → Hp → Prop} : dwp Try.prog F (callFunc 74 xs) h K = K (.enter 74 xs) h := dwp_callFunc (by unfold entB; rw [Try.func74]; rfl)
theorem re74 {F : Fr} {S : Hp} {xs : Array Value} : rval Try.prog F (callFunc 74 xs) S = some (.enter 74 xs) := rval_callFunc (by unfold entB; rw [Try.func74]; rfl)
theorem ni74 : Try.prog.inits.idxOf? 74 = none := by kernel_rfl
theorem en76 {F : Fr} {h : Hp} {xs : Array Value} {K : Next → Hp → Prop} : dwp Try.prog F (callFunc 76 xs) h K = K (.enter 76 xs) h := dwp_callFunc (by unfold entB; rw [Try.func76]; rfl)
theorem re76 {F : Fr} {S : Hp} {xs : Array Value} : rval Try.prog F (callFunc 76 xs) S = some (.enter 76 xs) := rval_callFunc (by unfold entB; rw [Try.func76]; rfl)
theorem ni76 : Try.prog.inits.idxOf? 76 = none := by kernel_rfl
theorem en77 {F : Fr} {h : Hp} {xs : Array Value} {K : Next → Hp → Prop} : dwp Try.prog F (callFunc 77 xs) h K = K (.enter 77 xs) h := dwp_callFunc (by unfold entB; rw [Try.func77]; rfl)
theorem re77 {F : Fr} {S : Hp} {xs : Array Value} : rval Try.prog F (callFunc 77 xs) S = some (.enter 77 xs) := rval_callFunc (by unfold entB; rw [Try.func77]; rfl)
theorem ni77 : Try.prog.inits.idxOf? 77 = none := by kernel_rfl
theorem en78 {F : Fr} {h : Hp} {xs : Array Value} {K : Next → Hp → Prop} : dwp Try.prog F (callFunc 78 xs) h K = K (.enter 78 xs) h := dwp_callFunc (by unfold entB; rw [Try.func78]; rfl)
theorem re78 {F : Fr} {S : Hp} {xs : Array Value} : rval Try.prog F (callFunc 78 xs) S = some (.enter 78 xs) := rval_callFunc (by unfold entB; rw [Try.func78]; rfl)
theorem ni78 : Try.prog.inits.idxOf? 78 = none := by kernel_rfl
theorem en79 {F : Fr} {h : Hp} {xs : Array Value} {K : Next → Hp → Prop} : dwp Try.prog F (callFunc 79 xs) h K = K (.enter 79 xs) h := dwp_callFunc (by unfold entB; rw [Try.func79]; rfl)
theorem re79 {F : Fr} {S : Hp} {xs : Array Value} : rval Try.prog F (callFunc 79 xs) S = some (.enter 79 xs) := rval_callFunc (by unfold entB; rw [Try.func79]; rfl)
theorem ni79 : Try.prog.inits.idxOf? 79 = none := by kernel_rfl
theorem en81 {F : Fr} {h : Hp} {xs : Array Value} {K : Next → Hp → Prop} : dwp Try.prog F (callFunc 81 xs) h K = K (.enter 81 xs) h := dwp_callFunc (by unfold entB; rw [Try.func81]; rfl)
theorem re81 {F : Fr} {S : Hp} {xs : Array Value} : rval Try.prog F (callFunc 81 xs) S = some (.enter 81 xs) := rval_callFunc (by unfold entB; rw [Try.func81]; rfl)
theorem ni81 : Try.prog.inits.idxOf? 81 = none := by kernel_rfl
theorem en82 {F : Fr} {h : Hp} {xs : Array Value} {K : Next → Hp → Prop} : dwp Try.prog F (callFunc 82 xs) h K = K (.enter 82 xs) h := dwp_callFunc (by unfold entB; rw [Try.func82]; rfl)
theorem re82 {F : Fr} {S : Hp} {xs : Array Value} : rval Try.prog F (callFunc 82 xs) S = some (.enter 82 xs) := rval_callFunc (by unfold entB; rw [Try.func82]; rfl)
theorem ni82 : Try.prog.inits.idxOf? 82 = none := by kernel_rfl
theorem en83 {F : Fr} {h : Hp} {xs : Array Value} {K : Next → Hp → Prop} : dwp Try.prog F (callFunc 83 xs) h K = K (.enter 83 xs) h := dwp_callFunc (by unfold entB; rw [Try.func83]; rfl)
theorem re83 {F : Fr} {S : Hp} {xs : Array Value} : rval Try.prog F (callFunc 83 xs) S = some (.enter 83 xs) := rval_callFunc (by unfold entB; rw [Try.func83]; rfl)
theorem ni83 : Try.prog.inits.idxOf? 83 = none := by kernel_rfl
theorem en84 {F : Fr} {h : Hp} {xs : Array Value} {K : Next → Hp → Prop} : dwp Try.prog F (callFunc 84 xs) h K = K (.enter 84 xs) h := dwp_callFunc (by unfold entB; rw [Try.func84]; rfl)
theorem re84 {F : Fr} {S : Hp} {xs : Array Value} : rval Try.prog F (callFunc 84 xs) S = some (.enter 84 xs) := rval_callFunc (by unfold entB; rw [Try.func84]; rfl)
theorem ni84 : Try.prog.inits.idxOf? 84 = none := by kernel_rfl
theorem en85 {F : Fr} {h : Hp} {xs : Array Value} {K : Next → Hp → Prop} : dwp Try.prog F (callFunc 85 xs) h K = K (.enter 85 xs) h := dwp_callFunc (by unfold entB; rw [Try.func85]; rfl)
theorem re85 {F : Fr} {S : Hp} {xs : Array Value} : rval Try.prog F (callFunc 85 xs) S = some (.enter 85 xs) := rval_callFunc (by unfold entB; rw [Try.func85]; rfl)
theorem ni85 : Try.prog.inits.idxOf? 85 = none := by kernel_rfl
theorem en86 {F : Fr} {h : Hp} {xs : Array Value} {K : Next → Hp → Prop} : dwp Try.prog F (callFunc 86 xs) h K = K (.enter 86 xs) h := dwp_callFunc (by unfold entB; rw [Try.func86]; rfl)
theorem re86 {F : Fr} {S : Hp} {xs : Array Value} : rval Try.prog F (callFunc 86 xs) S = some (.enter 86 xs) := rval_callFunc (by unfold entB; rw [Try.func86]; rfl)
theorem ni86 : Try.prog.inits.idxOf? 86 = none := by kernel_rfl
theorem en87 {F : Fr} {h : Hp} {xs : Array Value} {K : Next → Hp → Prop} : dwp Try.prog F (callFunc 87 xs) h K = K (.enter 87 xs) h := dwp_callFunc (by unfold entB; rw [Try.func87]; rfl)
theorem re87 {F : Fr} {S : Hp} {xs : Array Value} : rval Try.prog F (callFunc 87 xs) S = some (.enter 87 xs) := rval_callFunc (by unfold entB; rw [Try.func87]; rfl)
theorem ni87 : Try.prog.inits.idxOf? 87 = none := by kernel_rfl
theorem en88 {F : Fr} {h : Hp} {xs : Array Value} {K : Next → Hp → Prop} : dwp Try.prog F (callFunc 88 xs) h K = K (.enter 88 xs) h := dwp_callFunc (by unfold entB; rw [Try.func88]; rfl)
theorem re88 {F : Fr} {S : Hp} {xs : Array Value} : rval Try.prog F (callFunc 88 xs) S = some (.enter 88 xs) := rval_callFunc (by unfold entB; rw [Try.func88]; rfl)
theorem ni88 : Try.prog.inits.idxOf? 88 = none := by kernel_rfl
theorem en89 {F : Fr} {h : Hp} {xs : Array Value} {K : Next → Hp → Prop} : dwp Try.prog F (callFunc 89 xs) h K = K (.enter 89 xs) h := dwp_callFunc (by unfold entB; rw [Try.func89]; rfl)
theorem re89 {F : Fr} {S : Hp} {xs : Array Value} : rval Try.prog F (callFunc 89 xs) S = some (.enter 89 xs) := rval_callFunc (by unfold entB; rw [Try.func89]; rfl)
theorem ni89 : Try.prog.inits.idxOf? 89 = none := by kernel_rfl
theorem en90 {F : Fr} {h : Hp} {xs : Array Value} {K : Next → Hp → Prop} : dwp Try.prog F (callFunc 90 xs) h K = K (.enter 90 xs) h := dwp_callFunc (by unfold entB; rw [Try.func90]; rfl)
theorem re90 {F : Fr} {S : Hp} {xs : Array Value} : rval Try.prog F (callFunc 90 xs) S = some (.enter 90 xs) := rval_callFunc (by unfold entB; rw [Try.func90]; rfl)
theorem ni90 : Try.prog.inits.idxOf? 90 = none := by kernel_rfl
theorem en91 {F : Fr} {h : Hp} {xs : Array Value} {K : Next → Hp → Prop} : dwp Try.prog F (callFunc 91 xs) h K = K (.enter 91 xs) h := dwp_callFunc (by unfold entB; rw [Try.func91]; rfl)
theorem re91 {F : Fr} {S : Hp} {xs : Array Value} : rval Try.prog F (callFunc 91 xs) S = some (.enter 91 xs) := rval_callFunc (by unfold entB; rw [Try.func91]; rfl)
theorem ni91 : Try.prog.inits.idxOf? 91 = none := by kernel_rfl
theorem en92 {F : Fr} {h : Hp} {xs : Array Value} {K : Next → Hp → Prop} : dwp Try.prog F (callFunc 92 xs) h K = K (.enter 92 xs) h := dwp_callFunc (by unfold entB; rw [Try.func92]; rfl)
theorem re92 {F : Fr} {S : Hp} {xs : Array Value} : rval Try.prog F (callFunc 92 xs) S = some (.enter 92 xs) := rval_callFunc (by unfold entB; rw [Try.func92]; rfl)
theorem ni92 : Try.prog.inits.idxOf? 92 = none := by kernel_rfl
theorem en93 {F : Fr} {h : Hp} {xs : Array Value} {K : Next → Hp → Prop} : dwp Try.prog F (callFunc 93 xs) h K = K (.enter 93 xs) h := dwp_callFunc (by unfold entB; rw [Try.func93]; rfl)
theorem re93 {F : Fr} {S : Hp} {xs : Array Value} : rval Try.prog F (callFunc 93 xs) S = some (.enter 93 xs) := rval_callFunc (by unfold entB; rw [Try.func93]; rfl)
theorem ni93 : Try.prog.inits.idxOf? 93 = none := by kernel_rfl
theorem en94 {F : Fr} {h : Hp} {xs : Array Value} {K : Next → Hp → Prop} : dwp Try.prog F (callFunc 94 xs) h K = K (.enter 94 xs) h := dwp_callFunc (by unfold entB; rw [Try.func94]; rfl)
theorem re94 {F : Fr} {S : Hp} {xs : Array Value} : rval Try.prog F (callFunc 94 xs) S = some (.enter 94 xs) := rval_callFunc (by unfold entB; rw [Try.func94]; rfl)
theorem ni94 : Try.prog.inits.idxOf? 94 = none := by kernel_rfl
theorem en95 {F : Fr} {h : Hp} {xs : Array Value} {K : Next → Hp → Prop} : dwp Try.prog F (callFunc 95 xs) h K = K (.enter 95 xs) h := dwp_callFunc (by unfold entB; rw [Try.func95]; rfl)
theorem re95 {F : Fr} {S : Hp} {xs : Array Value} : rval Try.prog F (callFunc 95 xs) S = some (.enter 95 xs) := rval_callFunc (by unfold entB; rw [Try.func95]; rfl)
theorem ni95 : Try.prog.inits.idxOf? 95 = none := by kernel_rfl
theorem en96 {F : Fr} {h : Hp} {xs : Array Value} {K : Next → Hp → Prop} : dwp Try.prog F (callFunc 96 xs) h K = K (.enter 96 xs) h := dwp_callFunc (by unfold entB; rw [Try.func96]; rfl)
theorem re96 {F : Fr} {S : Hp} {xs : Array Value} : rval Try.prog F (callFunc 96 xs) S = some (.enter 96 xs) := rval_callFunc (by unfold entB; rw [Try.func96]; rfl)
theorem ni96 : Try.prog.inits.idxOf? 96 = none := by kernel_rfl
theorem en97 {F : Fr} {h : Hp} {xs : Array Value} {K : Next → Hp → Prop} : dwp Try.prog F (callFunc 97 xs) h K = K (.enter 97 xs) h := dwp_callFunc (by unfold entB; rw [Try.func97]; rfl)
theorem re97 {F : Fr} {S : Hp} {xs : Array Value} : rval Try.prog F (callFunc 97 xs) S = some (.enter 97 xs) := rval_callFunc (by unfold entB; rw [Try.func97]; rfl)
theorem ni97 : Try.prog.inits.idxOf? 97 = none := by kernel_rfl
theorem en98 {F : Fr} {h : Hp} {xs : Array Value} {K : Next → Hp → Prop} : dwp Try.prog F (callFunc 98 xs) h K = K (.enter 98 xs) h := dwp_callFunc (by unfold entB; rw [Try.func98]; rfl)
theorem re98 {F : Fr} {S : Hp} {xs : Array Value} : rval Try.prog F (callFunc 98 xs) S = some (.enter 98 xs) := rval_callFunc (by unfold entB; rw [Try.func98]; rfl)
theorem ni98 : Try.prog.inits.idxOf? 98 = none := by kernel_rfl
theorem dry_eql26 {a0 b0 a1 b1 : Int} : dry Try.prog (binOp .eql 26 (.agg #[.int .i64 a0, .int .i64 a1]) (.agg #[.int .i64 b0, .int .i64 b1])) = some (.bool ((a0 == b0) && ((a1 == b1) && true))) := dry_eqlS Try.underlying26 (by kernel_rfl) (eqF_int rfl Try.isAgg3 Try.underlying3 rfl rfl (eqF_int rfl Try.isAgg3 Try.underlying3 rfl rfl eqF_nil))
theorem dwp_eql26 {F : Fr} {h : Hp} {K : Value → Hp → Prop} {a0 b0 a1 b1 : Int} : dwp Try.prog F (binOp .eql 26 (.agg #[.int .i64 a0, .int .i64 a1]) (.agg #[.int .i64 b0, .int .i64 b1])) h K = K (.bool ((a0 == b0) && ((a1 == b1) && true))) h := dry_dwp _ dry_eql26
theorem rval_eql26 {F : Fr} {S : Hp} {a0 b0 a1 b1 : Int} : rval Try.prog F (binOp .eql 26 (.agg #[.int .i64 a0, .int .i64 a1]) (.agg #[.int .i64 b0, .int .i64 b1])) S = some (.bool ((a0 == b0) && ((a1 == b1) && true))) := dry_rval _ dry_eql26
theorem eg26 : Try.prog.eqGuardType Try.prog.depth 26 = false := by kernel_rfl
theorem dry_neq4 {a b : Bool} : dry Try.prog (binOp .neq 4 (.bool a) (.bool b)) = some (.bool (!(a == b))) := dry_neqB Try.underlying4
theorem dwp_neq4 {F : Fr} {h : Hp} {K : Value → Hp → Prop} {a b : Bool} : dwp Try.prog F (binOp .neq 4 (.bool a) (.bool b)) h K = K (.bool (!(a == b))) h := dry_dwp _ dry_neq4
theorem rval_neq4 {F : Fr} {S : Hp} {a b : Bool} : rval Try.prog F (binOp .neq 4 (.bool a) (.bool b)) S = some (.bool (!(a == b))) := dry_rval _ dry_neq4
theorem dwp_conv3_118 {F : Fr} {h : Hp} {K : Value → Hp → Prop} {k : IntKind} {n : Int} : dwp Try.prog F (convert 3 118 (.int k n)) h K = K (.int .u64 (IntKind.u64.wrap n)) h := dry_dwp _ (dry_convI Try.underlying3 Try.underlying118)
theorem rval_conv3_118 {F : Fr} {S : Hp} {k : IntKind} {n : Int} : rval Try.prog F (convert 3 118 (.int k n)) S = some (.int .u64 (IntKind.u64.wrap n)) := dry_rval _ (dry_convI Try.underlying3 Try.underlying118)
theorem dwp_conv3_135 {F : Fr} {h : Hp} {K : Value → Hp → Prop} {k : IntKind} {n : Int} : dwp Try.prog F (convert 3 135 (.int k n)) h K = K (.int .u64 (IntKind.u64.wrap n)) h := dry_dwp _ (dry_convI Try.underlying3 Try.underlying135)
theorem rval_conv3_135 {F : Fr} {S : Hp} {k : IntKind} {n : Int} : rval Try.prog F (convert 3 135 (.int k n)) S = some (.int .u64 (IntKind.u64.wrap n)) := dry_rval _ (dry_convI Try.underlying3 Try.underlying135)
theorem dwp_conv5_3 {F : Fr} {h : Hp} {K : Value → Hp → Prop} {k : IntKind} {n : Int} : dwp Try.prog F (convert 5 3 (.int k n)) h K = K (.int .i64 (IntKind.i64.wrap n)) h := dry_dwp _ (dry_convI Try.underlying5 Try.underlying3)
theorem rval_conv5_3 {F : Fr} {S : Hp} {k : IntKind} {n : Int} : rval Try.prog F (convert 5 3 (.int k n)) S = some (.int .i64 (IntKind.i64.wrap n)) := dry_rval _ (dry_convI Try.underlying5 Try.underlying3)
theorem dwp_conv24_3 {F : Fr} {h : Hp} {K : Value → Hp → Prop} {k : IntKind} {n : Int} : dwp Try.prog F (convert 24 3 (.int k n)) h K = K (.int .i64 (IntKind.i64.wrap n)) h := dry_dwp _ (dry_convI Try.underlying24 Try.underlying3)
theorem rval_conv24_3 {F : Fr} {S : Hp} {k : IntKind} {n : Int} : rval Try.prog F (convert 24 3 (.int k n)) S = some (.int .i64 (IntKind.i64.wrap n)) := dry_rval _ (dry_convI Try.underlying24 Try.underlying3)
theorem dwp_conv118_3 {F : Fr} {h : Hp} {K : Value → Hp → Prop} {k : IntKind} {n : Int} : dwp Try.prog F (convert 118 3 (.int k n)) h K = K (.int .i64 (IntKind.i64.wrap n)) h := dry_dwp _ (dry_convI Try.underlying118 Try.underlying3)
theorem rval_conv118_3 {F : Fr} {S : Hp} {k : IntKind} {n : Int} : rval Try.prog F (convert 118 3 (.int k n)) S = some (.int .i64 (IntKind.i64.wrap n)) := dry_rval _ (dry_convI Try.underlying118 Try.underlying3)
theorem dwp_conv118_132 {F : Fr} {h : Hp} {K : Value → Hp → Prop} {k : IntKind} {n : Int} : dwp Try.prog F (convert 118 132 (.int k n)) h K = K (.int .u32 (IntKind.u32.wrap n)) h := dry_dwp _ (dry_convI Try.underlying118 Try.underlying132)
theorem rval_conv118_132 {F : Fr} {S : Hp} {k : IntKind} {n : Int} : rval Try.prog F (convert 118 132 (.int k n)) S = some (.int .u32 (IntKind.u32.wrap n)) := dry_rval _ (dry_convI Try.underlying118 Try.underlying132)
theorem dwp_conv132_5 {F : Fr} {h : Hp} {K : Value → Hp → Prop} {k : IntKind} {n : Int} : dwp Try.prog F (convert 132 5 (.int k n)) h K = K (.int .u8 (IntKind.u8.wrap n)) h := dry_dwp _ (dry_convI Try.underlying132 Try.underlying5)
theorem rval_conv132_5 {F : Fr} {S : Hp} {k : IntKind} {n : Int} : rval Try.prog F (convert 132 5 (.int k n)) S = some (.int .u8 (IntKind.u8.wrap n)) := dry_rval _ (dry_convI Try.underlying132 Try.underlying5)
theorem mo : Try.prog.follows .mixedOrders = true := by kernel_rfl
end Go.Proofs.Ytlblahfndlgfmaa
