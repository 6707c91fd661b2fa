/-
  The types of the program, as the walk over a part of memory asks them. Conditions: none. Printed by facts.py (own program).
-/
import Derived.Test.YtdhdfdaclbfkiaaProg
import Derived.Test.YtdhdfdaclbfkiaaS8
namespace Go.Proofs.Ytdhdfdaclbfkiaa
open Go Go.SL Go.RowKit
set_option linter.unusedVariables false
theorem un0 {F : Fr} {h : Hp} {K : TypeDesc → Hp → Prop} : dwp Try.prog F (underlying 0) h K = K (Go.TypeDesc.tuple #[]) h := by rw [dwp_underlying, Try.underlying0]; rfl
theorem ru0 {F : Fr} {S : Hp} : rval Try.prog F (underlying 0) S = some (Go.TypeDesc.tuple #[]) := rval_un Try.underlying0
theorem sz0 {F : Fr} {h : Hp} {K : Nat → Hp → Prop} : dwp Try.prog F (sizeOf 0) h K = K 1 h := dwp_size_of Try.sizeOf0
theorem rs0 {F : Fr} {S : Hp} : rval Try.prog F (sizeOf 0) S = some 1 := rval_size Try.sizeOf0
theorem ag0 {F : Fr} {h : Hp} {K : Bool → Hp → Prop} : dwp Try.prog F (isAgg 0) h K = K false h := dwp_agg_of Try.isAgg0
theorem ra0 {F : Fr} {S : Hp} : rval Try.prog F (isAgg 0) S = some false := rval_agg Try.isAgg0
theorem ze0 {F : Fr} {h : Hp} {K : Value → Hp → Prop} : dwp Try.prog F (zeroValue 0) h K = K (Go.Value.tuple #[]) h := dwp_zero_of Try.zeroValue0
theorem rz0 {F : Fr} {S : Hp} : rval Try.prog F (zeroValue 0) S = some (Go.Value.tuple #[]) := rval_zero Try.zeroValue0
theorem un1 {F : Fr} {h : Hp} {K : TypeDesc → Hp → Prop} : dwp Try.prog F (underlying 1) h K = K (Go.TypeDesc.func #[] #[] false) h := by rw [dwp_underlying, Try.underlying1]; rfl
theorem ru1 {F : Fr} {S : Hp} : rval Try.prog F (underlying 1) S = some (Go.TypeDesc.func #[] #[] false) := rval_un Try.underlying1
theorem sz1 {F : Fr} {h : Hp} {K : Nat → Hp → Prop} : dwp Try.prog F (sizeOf 1) h K = K 1 h := dwp_size_of Try.sizeOf1
theorem rs1 {F : Fr} {S : Hp} : rval Try.prog F (sizeOf 1) S = some 1 := rval_size Try.sizeOf1
theorem ag1 {F : Fr} {h : Hp} {K : Bool → Hp → Prop} : dwp Try.prog F (isAgg 1) h K = K false h := dwp_agg_of Try.isAgg1
theorem ra1 {F : Fr} {S : Hp} : rval Try.prog F (isAgg 1) S = some false := rval_agg Try.isAgg1
theorem ze1 {F : Fr} {h : Hp} {K : Value → Hp → Prop} : dwp Try.prog F (zeroValue 1) h K = K Go.Value.nilFunc h := dwp_zero_of Try.zeroValue1
theorem rz1 {F : Fr} {S : Hp} : rval Try.prog F (zeroValue 1) S = some (Go.Value.nilFunc) := rval_zero Try.zeroValue1
theorem un2 {F : Fr} {h : Hp} {K : TypeDesc → Hp → Prop} : dwp Try.prog F (underlying 2) h K = K (Go.TypeDesc.int Go.IntKind.i64) h := by rw [dwp_underlying, Try.underlying2]; rfl
theorem ru2 {F : Fr} {S : Hp} : rval Try.prog F (underlying 2) S = some (Go.TypeDesc.int Go.IntKind.i64) := rval_un Try.underlying2
theorem sz2 {F : Fr} {h : Hp} {K : Nat → Hp → Prop} : dwp Try.prog F (sizeOf 2) h K = K 1 h := dwp_size_of Try.sizeOf2
theorem rs2 {F : Fr} {S : Hp} : rval Try.prog F (sizeOf 2) S = some 1 := rval_size Try.sizeOf2
theorem ag2 {F : Fr} {h : Hp} {K : Bool → Hp → Prop} : dwp Try.prog F (isAgg 2) h K = K false h := dwp_agg_of Try.isAgg2
theorem ra2 {F : Fr} {S : Hp} : rval Try.prog F (isAgg 2) S = some false := rval_agg Try.isAgg2
theorem ze2 {F : Fr} {h : Hp} {K : Value → Hp → Prop} : dwp Try.prog F (zeroValue 2) h K = K (Go.Value.int Go.IntKind.i64 0) h := dwp_zero_of Try.zeroValue2
theorem rz2 {F : Fr} {S : Hp} : rval Try.prog F (zeroValue 2) S = some (Go.Value.int Go.IntKind.i64 0) := rval_zero Try.zeroValue2
theorem un3 {F : Fr} {h : Hp} {K : TypeDesc → Hp → Prop} : dwp Try.prog F (underlying 3) h K = K (Go.TypeDesc.int Go.IntKind.i64) h := by rw [dwp_underlying, Try.underlying3]; rfl
theorem ru3 {F : Fr} {S : Hp} : rval Try.prog F (underlying 3) S = some (Go.TypeDesc.int Go.IntKind.i64) := rval_un Try.underlying3
theorem sz3 {F : Fr} {h : Hp} {K : Nat → Hp → Prop} : dwp Try.prog F (sizeOf 3) h K = K 1 h := dwp_size_of Try.sizeOf3
theorem rs3 {F : Fr} {S : Hp} : rval Try.prog F (sizeOf 3) S = some 1 := rval_size Try.sizeOf3
theorem ag3 {F : Fr} {h : Hp} {K : Bool → Hp → Prop} : dwp Try.prog F (isAgg 3) h K = K false h := dwp_agg_of Try.isAgg3
theorem ra3 {F : Fr} {S : Hp} : rval Try.prog F (isAgg 3) S = some false := rval_agg Try.isAgg3
theorem ze3 {F : Fr} {h : Hp} {K : Value → Hp → Prop} : dwp Try.prog F (zeroValue 3) h K = K (Go.Value.int Go.IntKind.i64 0) h := dwp_zero_of Try.zeroValue3
theorem rz3 {F : Fr} {S : Hp} : rval Try.prog F (zeroValue 3) S = some (Go.Value.int Go.IntKind.i64 0) := rval_zero Try.zeroValue3
theorem un4 {F : Fr} {h : Hp} {K : TypeDesc → Hp → Prop} : dwp Try.prog F (underlying 4) h K = K (Go.TypeDesc.bool) h := by rw [dwp_underlying, Try.underlying4]; rfl
theorem ru4 {F : Fr} {S : Hp} : rval Try.prog F (underlying 4) S = some (Go.TypeDesc.bool) := rval_un Try.underlying4
theorem sz4 {F : Fr} {h : Hp} {K : Nat → Hp → Prop} : dwp Try.prog F (sizeOf 4) h K = K 1 h := dwp_size_of Try.sizeOf4
theorem rs4 {F : Fr} {S : Hp} : rval Try.prog F (sizeOf 4) S = some 1 := rval_size Try.sizeOf4
theorem ag4 {F : Fr} {h : Hp} {K : Bool → Hp → Prop} : dwp Try.prog F (isAgg 4) h K = K false h := dwp_agg_of Try.isAgg4
theorem ra4 {F : Fr} {S : Hp} : rval Try.prog F (isAgg 4) S = some false := rval_agg Try.isAgg4
theorem ze4 {F : Fr} {h : Hp} {K : Value → Hp → Prop} : dwp Try.prog F (zeroValue 4) h K = K (Go.Value.bool false) h := dwp_zero_of Try.zeroValue4
theorem rz4 {F : Fr} {S : Hp} : rval Try.prog F (zeroValue 4) S = some (Go.Value.bool false) := rval_zero Try.zeroValue4
theorem un5 {F : Fr} {h : Hp} {K : TypeDesc → Hp → Prop} : dwp Try.prog F (underlying 5) h K = K (Go.TypeDesc.int Go.IntKind.u8) h := by rw [dwp_underlying, Try.underlying5]; rfl
theorem ru5 {F : Fr} {S : Hp} : rval Try.prog F (underlying 5) S = some (Go.TypeDesc.int Go.IntKind.u8) := rval_un Try.underlying5
theorem sz5 {F : Fr} {h : Hp} {K : Nat → Hp → Prop} : dwp Try.prog F (sizeOf 5) h K = K 1 h := dwp_size_of Try.sizeOf5
theorem rs5 {F : Fr} {S : Hp} : rval Try.prog F (sizeOf 5) S = some 1 := rval_size Try.sizeOf5
theorem ag5 {F : Fr} {h : Hp} {K : Bool → Hp → Prop} : dwp Try.prog F (isAgg 5) h K = K false h := dwp_agg_of Try.isAgg5
theorem ra5 {F : Fr} {S : Hp} : rval Try.prog F (isAgg 5) S = some false := rval_agg Try.isAgg5
theorem ze5 {F : Fr} {h : Hp} {K : Value → Hp → Prop} : dwp Try.prog F (zeroValue 5) h K = K (Go.Value.int Go.IntKind.u8 0) h := dwp_zero_of Try.zeroValue5
theorem rz5 {F : Fr} {S : Hp} : rval Try.prog F (zeroValue 5) S = some (Go.Value.int Go.IntKind.u8 0) := rval_zero Try.zeroValue5
theorem un6 {F : Fr} {h : Hp} {K : TypeDesc → Hp → Prop} : dwp Try.prog F (underlying 6) h K = K (Go.TypeDesc.int Go.IntKind.u8) h := by rw [dwp_underlying, Try.underlying6]; rfl
theorem ru6 {F : Fr} {S : Hp} : rval Try.prog F (underlying 6) S = some (Go.TypeDesc.int Go.IntKind.u8) := rval_un Try.underlying6
theorem sz6 {F : Fr} {h : Hp} {K : Nat → Hp → Prop} : dwp Try.prog F (sizeOf 6) h K = K 1 h := dwp_size_of Try.sizeOf6
theorem rs6 {F : Fr} {S : Hp} : rval Try.prog F (sizeOf 6) S = some 1 := rval_size Try.sizeOf6
theorem ag6 {F : Fr} {h : Hp} {K : Bool → Hp → Prop} : dwp Try.prog F (isAgg 6) h K = K false h := dwp_agg_of Try.isAgg6
theorem ra6 {F : Fr} {S : Hp} : rval Try.prog F (isAgg 6) S = some false := rval_agg Try.isAgg6
theorem ze6 {F : Fr} {h : Hp} {K : Value → Hp → Prop} : dwp Try.prog F (zeroValue 6) h K = K (Go.Value.int Go.IntKind.u8 0) h := dwp_zero_of Try.zeroValue6
theorem rz6 {F : Fr} {S : Hp} : rval Try.prog F (zeroValue 6) S = some (Go.Value.int Go.IntKind.u8 0) := rval_zero Try.zeroValue6
theorem un7 {F : Fr} {h : Hp} {K : TypeDesc → Hp → Prop} : dwp Try.prog F (underlying 7) h K = K (Go.TypeDesc.struct #[{ name := "x", type := 2, offset := 0, embedded := false, tag := "", pkgPath := "runtime", byteOffset := 0 }, { name := "y", type := 3, offset := 1, embedded := false, tag := "", pkgPath := "runtime", byteOffset := 8 }, { name := "signed", type := 4, offset := 2, embedded := false, tag := "", pkgPath := "runtime", byteOffset := 16 }, { name := "code", type := 6, offset := 3, embedded := false, tag := "", pkgPath := "runtime", byteOffset := 17 }]) h := by rw [dwp_underlying, Try.underlying7]; rfl
theorem ru7 {F : Fr} {S : Hp} : rval Try.prog F (underlying 7) S = some (Go.TypeDesc.struct #[{ name := "x", type := 2, offset := 0, embedded := false, tag := "", pkgPath := "runtime", byteOffset := 0 }, { name := "y", type := 3, offset := 1, embedded := false, tag := "", pkgPath := "runtime", byteOffset := 8 }, { name := "signed", type := 4, offset := 2, embedded := false, tag := "", pkgPath := "runtime", byteOffset := 16 }, { name := "code", type := 6, offset := 3, embedded := false, tag := "", pkgPath := "runtime", byteOffset := 17 }]) := rval_un Try.underlying7
theorem sz7 {F : Fr} {h : Hp} {K : Nat → Hp → Prop} : dwp Try.prog F (sizeOf 7) h K = K 4 h := dwp_size_of Try.sizeOf7
theorem rs7 {F : Fr} {S : Hp} : rval Try.prog F (sizeOf 7) S = some 4 := rval_size Try.sizeOf7
theorem ag7 {F : Fr} {h : Hp} {K : Bool → Hp → Prop} : dwp Try.prog F (isAgg 7) h K = K true h := dwp_agg_of Try.isAgg7
theorem ra7 {F : Fr} {S : Hp} : rval Try.prog F (isAgg 7) S = some true := rval_agg Try.isAgg7
theorem ze7 {F : Fr} {h : Hp} {K : Value → Hp → Prop} : dwp Try.prog F (zeroValue 7) h K = K (Go.Value.agg #[Go.Value.int Go.IntKind.i64 0, Go.Value.int Go.IntKind.i64 0, Go.Value.bool false, Go.Value.int Go.IntKind.u8 0]) h := dwp_zero_of Try.zeroValue7
theorem rz7 {F : Fr} {S : Hp} : rval Try.prog F (zeroValue 7) S = some (Go.Value.agg #[Go.Value.int Go.IntKind.i64 0, Go.Value.int Go.IntKind.i64 0, Go.Value.bool false, Go.Value.int Go.IntKind.u8 0]) := rval_zero Try.zeroValue7
theorem un8 {F : Fr} {h : Hp} {K : TypeDesc → Hp → Prop} : dwp Try.prog F (underlying 8) h K = K (Go.TypeDesc.struct #[{ name := "x", type := 2, offset := 0, embedded := false, tag := "", pkgPath := "runtime", byteOffset := 0 }, { name := "y", type := 3, offset := 1, embedded := false, tag := "", pkgPath := "runtime", byteOffset := 8 }, { name := "signed", type := 4, offset := 2, embedded := false, tag := "", pkgPath := "runtime", byteOffset := 16 }, { name := "code", type := 6, offset := 3, embedded := false, tag := "", pkgPath := "runtime", byteOffset := 17 }]) h := by rw [dwp_underlying, Try.underlying8]; rfl
theorem ru8 {F : Fr} {S : Hp} : rval Try.prog F (underlying 8) S = some (Go.TypeDesc.struct #[{ name := "x", type := 2, offset := 0, embedded := false, tag := "", pkgPath := "runtime", byteOffset := 0 }, { name := "y", type := 3, offset := 1, embedded := false, tag := "", pkgPath := "runtime", byteOffset := 8 }, { name := "signed", type := 4, offset := 2, embedded := false, tag := "", pkgPath := "runtime", byteOffset := 16 }, { name := "code", type := 6, offset := 3, embedded := false, tag := "", pkgPath := "runtime", byteOffset := 17 }]) := rval_un Try.underlying8
theorem sz8 {F : Fr} {h : Hp} {K : Nat → Hp → Prop} : dwp Try.prog F (sizeOf 8) h K = K 4 h := dwp_size_of Try.sizeOf8
theorem rs8 {F : Fr} {S : Hp} : rval Try.prog F (sizeOf 8) S = some 4 := rval_size Try.sizeOf8
theorem ag8 {F : Fr} {h : Hp} {K : Bool → Hp → Prop} : dwp Try.prog F (isAgg 8) h K = K true h := dwp_agg_of Try.isAgg8
theorem ra8 {F : Fr} {S : Hp} : rval Try.prog F (isAgg 8) S = some true := rval_agg Try.isAgg8
theorem ze8 {F : Fr} {h : Hp} {K : Value → Hp → Prop} : dwp Try.prog F (zeroValue 8) h K = K (Go.Value.agg #[Go.Value.int Go.IntKind.i64 0, Go.Value.int Go.IntKind.i64 0, Go.Value.bool false, Go.Value.int Go.IntKind.u8 0]) h := dwp_zero_of Try.zeroValue8
theorem rz8 {F : Fr} {S : Hp} : rval Try.prog F (zeroValue 8) S = some (Go.Value.agg #[Go.Value.int Go.IntKind.i64 0, Go.Value.int Go.IntKind.i64 0, Go.Value.bool false, Go.Value.int Go.IntKind.u8 0]) := rval_zero Try.zeroValue8
theorem un9 {F : Fr} {h : Hp} {K : TypeDesc → Hp → Prop} : dwp Try.prog F (underlying 9) h K = K (Go.TypeDesc.string) h := by rw [dwp_underlying, Try.underlying9]; rfl
theorem ru9 {F : Fr} {S : Hp} : rval Try.prog F (underlying 9) S = some (Go.TypeDesc.string) := rval_un Try.underlying9
theorem sz9 {F : Fr} {h : Hp} {K : Nat → Hp → Prop} : dwp Try.prog F (sizeOf 9) h K = K 1 h := dwp_size_of Try.sizeOf9
theorem rs9 {F : Fr} {S : Hp} : rval Try.prog F (sizeOf 9) S = some 1 := rval_size Try.sizeOf9
theorem ag9 {F : Fr} {h : Hp} {K : Bool → Hp → Prop} : dwp Try.prog F (isAgg 9) h K = K false h := dwp_agg_of Try.isAgg9
theorem ra9 {F : Fr} {S : Hp} : rval Try.prog F (isAgg 9) S = some false := rval_agg Try.isAgg9
theorem ze9 {F : Fr} {h : Hp} {K : Value → Hp → Prop} : dwp Try.prog F (zeroValue 9) h K = K (Go.Value.string { data := #[] }) h := dwp_zero_of Try.zeroValue9
theorem rz9 {F : Fr} {S : Hp} : rval Try.prog F (zeroValue 9) S = some (Go.Value.string { data := #[] }) := rval_zero Try.zeroValue9
theorem un10 {F : Fr} {h : Hp} {K : TypeDesc → Hp → Prop} : dwp Try.prog F (underlying 10) h K = K (Go.TypeDesc.string) h := by rw [dwp_underlying, Try.underlying10]; rfl
theorem ru10 {F : Fr} {S : Hp} : rval Try.prog F (underlying 10) S = some (Go.TypeDesc.string) := rval_un Try.underlying10
theorem sz10 {F : Fr} {h : Hp} {K : Nat → Hp → Prop} : dwp Try.prog F (sizeOf 10) h K = K 1 h := dwp_size_of Try.sizeOf10
theorem rs10 {F : Fr} {S : Hp} : rval Try.prog F (sizeOf 10) S = some 1 := rval_size Try.sizeOf10
theorem ag10 {F : Fr} {h : Hp} {K : Bool → Hp → Prop} : dwp Try.prog F (isAgg 10) h K = K false h := dwp_agg_of Try.isAgg10
theorem ra10 {F : Fr} {S : Hp} : rval Try.prog F (isAgg 10) S = some false := rval_agg Try.isAgg10
theorem ze10 {F : Fr} {h : Hp} {K : Value → Hp → Prop} : dwp Try.prog F (zeroValue 10) h K = K (Go.Value.string { data := #[] }) h := dwp_zero_of Try.zeroValue10
theorem rz10 {F : Fr} {S : Hp} : rval Try.prog F (zeroValue 10) S = some (Go.Value.string { data := #[] }) := rval_zero Try.zeroValue10
theorem un11 {F : Fr} {h : Hp} {K : TypeDesc → Hp → Prop} : dwp Try.prog F (underlying 11) h K = K (Go.TypeDesc.string) h := by rw [dwp_underlying, Try.underlying11]; rfl
theorem ru11 {F : Fr} {S : Hp} : rval Try.prog F (underlying 11) S = some (Go.TypeDesc.string) := rval_un Try.underlying11
theorem sz11 {F : Fr} {h : Hp} {K : Nat → Hp → Prop} : dwp Try.prog F (sizeOf 11) h K = K 1 h := dwp_size_of Try.sizeOf11
theorem rs11 {F : Fr} {S : Hp} : rval Try.prog F (sizeOf 11) S = some 1 := rval_size Try.sizeOf11
theorem ag11 {F : Fr} {h : Hp} {K : Bool → Hp → Prop} : dwp Try.prog F (isAgg 11) h K = K false h := dwp_agg_of Try.isAgg11
theorem ra11 {F : Fr} {S : Hp} : rval Try.prog F (isAgg 11) S = some false := rval_agg Try.isAgg11
theorem ze11 {F : Fr} {h : Hp} {K : Value → Hp → Prop} : dwp Try.prog F (zeroValue 11) h K = K (Go.Value.string { data := #[] }) h := dwp_zero_of Try.zeroValue11
theorem rz11 {F : Fr} {S : Hp} : rval Try.prog F (zeroValue 11) S = some (Go.Value.string { data := #[] }) := rval_zero Try.zeroValue11
theorem un12 {F : Fr} {h : Hp} {K : TypeDesc → Hp → Prop} : dwp Try.prog F (underlying 12) h K = K (Go.TypeDesc.int Go.IntKind.u64) h := by rw [dwp_underlying, Try.underlying12]; rfl
theorem ru12 {F : Fr} {S : Hp} : rval Try.prog F (underlying 12) S = some (Go.TypeDesc.int Go.IntKind.u64) := rval_un Try.underlying12
theorem sz12 {F : Fr} {h : Hp} {K : Nat → Hp → Prop} : dwp Try.prog F (sizeOf 12) h K = K 1 h := dwp_size_of Try.sizeOf12
theorem rs12 {F : Fr} {S : Hp} : rval Try.prog F (sizeOf 12) S = some 1 := rval_size Try.sizeOf12
theorem ag12 {F : Fr} {h : Hp} {K : Bool → Hp → Prop} : dwp Try.prog F (isAgg 12) h K = K false h := dwp_agg_of Try.isAgg12
theorem ra12 {F : Fr} {S : Hp} : rval Try.prog F (isAgg 12) S = some false := rval_agg Try.isAgg12
theorem ze12 {F : Fr} {h : Hp} {K : Value → Hp → Prop} : dwp Try.prog F (zeroValue 12) h K = K (Go.Value.int Go.IntKind.u64 0) h := dwp_zero_of Try.zeroValue12
theorem rz12 {F : Fr} {S : Hp} : rval Try.prog F (zeroValue 12) S = some (Go.Value.int Go.IntKind.u64 0) := rval_zero Try.zeroValue12
theorem un13 {F : Fr} {h : Hp} {K : TypeDesc → Hp → Prop} : dwp Try.prog F (underlying 13) h K = K (Go.TypeDesc.struct #[{ name := "msg", type := 9, offset := 0, embedded := false, tag := "", pkgPath := "runtime", byteOffset := 0 }, { name := "addr", type := 12, offset := 1, embedded := false, tag := "", pkgPath := "runtime", byteOffset := 16 }]) h := by rw [dwp_underlying, Try.underlying13]; rfl
theorem ru13 {F : Fr} {S : Hp} : rval Try.prog F (underlying 13) S = some (Go.TypeDesc.struct #[{ name := "msg", type := 9, offset := 0, embedded := false, tag := "", pkgPath := "runtime", byteOffset := 0 }, { name := "addr", type := 12, offset := 1, embedded := false, tag := "", pkgPath := "runtime", byteOffset := 16 }]) := rval_un Try.underlying13
theorem sz13 {F : Fr} {h : Hp} {K : Nat → Hp → Prop} : dwp Try.prog F (sizeOf 13) h K = K 2 h := dwp_size_of Try.sizeOf13
theorem rs13 {F : Fr} {S : Hp} : rval Try.prog F (sizeOf 13) S = some 2 := rval_size Try.sizeOf13
theorem ag13 {F : Fr} {h : Hp} {K : Bool → Hp → Prop} : dwp Try.prog F (isAgg 13) h K = K true h := dwp_agg_of Try.isAgg13
theorem ra13 {F : Fr} {S : Hp} : rval Try.prog F (isAgg 13) S = some true := rval_agg Try.isAgg13
theorem ze13 {F : Fr} {h : Hp} {K : Value → Hp → Prop} : dwp Try.prog F (zeroValue 13) h K = K (Go.Value.agg #[Go.Value.string { data := #[] }, Go.Value.int Go.IntKind.u64 0]) h := dwp_zero_of Try.zeroValue13
theorem rz13 {F : Fr} {S : Hp} : rval Try.prog F (zeroValue 13) S = some (Go.Value.agg #[Go.Value.string { data := #[] }, Go.Value.int Go.IntKind.u64 0]) := rval_zero Try.zeroValue13
theorem un14 {F : Fr} {h : Hp} {K : TypeDesc → Hp → Prop} : dwp Try.prog F (underlying 14) h K = K (Go.TypeDesc.struct #[{ name := "msg", type := 9, offset := 0, embedded := false, tag := "", pkgPath := "runtime", byteOffset := 0 }, { name := "addr", type := 12, offset := 1, embedded := false, tag := "", pkgPath := "runtime", byteOffset := 16 }]) h := by rw [dwp_underlying, Try.underlying14]; rfl
theorem ru14 {F : Fr} {S : Hp} : rval Try.prog F (underlying 14) S = some (Go.TypeDesc.struct #[{ name := "msg", type := 9, offset := 0, embedded := false, tag := "", pkgPath := "runtime", byteOffset := 0 }, { name := "addr", type := 12, offset := 1, embedded := false, tag := "", pkgPath := "runtime", byteOffset := 16 }]) := rval_un Try.underlying14
theorem sz14 {F : Fr} {h : Hp} {K : Nat → Hp → Prop} : dwp Try.prog F (sizeOf 14) h K = K 2 h := dwp_size_of Try.sizeOf14
theorem rs14 {F : Fr} {S : Hp} : rval Try.prog F (sizeOf 14) S = some 2 := rval_size Try.sizeOf14
theorem ag14 {F : Fr} {h : Hp} {K : Bool → Hp → Prop} : dwp Try.prog F (isAgg 14) h K = K true h := dwp_agg_of Try.isAgg14
theorem ra14 {F : Fr} {S : Hp} : rval Try.prog F (isAgg 14) S = some true := rval_agg Try.isAgg14
theorem ze14 {F : Fr} {h : Hp} {K : Value → Hp → Prop} : dwp Try.prog F (zeroValue 14) h K = K (Go.Value.agg #[Go.Value.string { data := #[] }, Go.Value.int Go.IntKind.u64 0]) h := dwp_zero_of Try.zeroValue14
theorem rz14 {F : Fr} {S : Hp} : rval Try.prog F (zeroValue 14) S = some (Go.Value.agg #[Go.Value.string { data := #[] }, Go.Value.int Go.IntKind.u64 0]) := rval_zero Try.zeroValue14
theorem un15 {F : Fr} {h : Hp} {K : TypeDesc → Hp → Prop} : dwp Try.prog F (underlying 15) h K = K (Go.TypeDesc.pointer 222) h := by rw [dwp_underlying, Try.underlying15]; rfl
theorem ru15 {F : Fr} {S : Hp} : rval Try.prog F (underlying 15) S = some (Go.TypeDesc.pointer 222) := rval_un Try.underlying15
theorem sz15 {F : Fr} {h : Hp} {K : Nat → Hp → Prop} : dwp Try.prog F (sizeOf 15) h K = K 1 h := dwp_size_of Try.sizeOf15
theorem rs15 {F : Fr} {S : Hp} : rval Try.prog F (sizeOf 15) S = some 1 := rval_size Try.sizeOf15
theorem ag15 {F : Fr} {h : Hp} {K : Bool → Hp → Prop} : dwp Try.prog F (isAgg 15) h K = K false h := dwp_agg_of Try.isAgg15
theorem ra15 {F : Fr} {S : Hp} : rval Try.prog F (isAgg 15) S = some false := rval_agg Try.isAgg15
theorem ze15 {F : Fr} {h : Hp} {K : Value → Hp → Prop} : dwp Try.prog F (zeroValue 15) h K = K (Go.Value.pointer none) h := dwp_zero_of Try.zeroValue15
theorem rz15 {F : Fr} {S : Hp} : rval Try.prog F (zeroValue 15) S = some (Go.Value.pointer none) := rval_zero Try.zeroValue15
theorem un16 {F : Fr} {h : Hp} {K : TypeDesc → Hp → Prop} : dwp Try.prog F (underlying 16) h K = K (Go.TypeDesc.pointer 225) h := by rw [dwp_underlying, Try.underlying16]; rfl
theorem ru16 {F : Fr} {S : Hp} : rval Try.prog F (underlying 16) S = some (Go.TypeDesc.pointer 225) := rval_un Try.underlying16
theorem sz16 {F : Fr} {h : Hp} {K : Nat → Hp → Prop} : dwp Try.prog F (sizeOf 16) h K = K 1 h := dwp_size_of Try.sizeOf16
theorem rs16 {F : Fr} {S : Hp} : rval Try.prog F (sizeOf 16) S = some 1 := rval_size Try.sizeOf16
theorem ag16 {F : Fr} {h : Hp} {K : Bool → Hp → Prop} : dwp Try.prog F (isAgg 16) h K = K false h := dwp_agg_of Try.isAgg16
theorem ra16 {F : Fr} {S : Hp} : rval Try.prog F (isAgg 16) S = some false := rval_agg Try.isAgg16
theorem ze16 {F : Fr} {h : Hp} {K : Value → Hp → Prop} : dwp Try.prog F (zeroValue 16) h K = K (Go.Value.pointer none) h := dwp_zero_of Try.zeroValue16
theorem rz16 {F : Fr} {S : Hp} : rval Try.prog F (zeroValue 16) S = some (Go.Value.pointer none) := rval_zero Try.zeroValue16
theorem un17 {F : Fr} {h : Hp} {K : TypeDesc → Hp → Prop} : dwp Try.prog F (underlying 17) h K = K (Go.TypeDesc.pointer 234) h := by rw [dwp_underlying, Try.underlying17]; rfl
theorem ru17 {F : Fr} {S : Hp} : rval Try.prog F (underlying 17) S = some (Go.TypeDesc.pointer 234) := rval_un Try.underlying17
theorem sz17 {F : Fr} {h : Hp} {K : Nat → Hp → Prop} : dwp Try.prog F (sizeOf 17) h K = K 1 h := dwp_size_of Try.sizeOf17
theorem rs17 {F : Fr} {S : Hp} : rval Try.prog F (sizeOf 17) S = some 1 := rval_size Try.sizeOf17
theorem ag17 {F : Fr} {h : Hp} {K : Bool → Hp → Prop} : dwp Try.prog F (isAgg 17) h K = K false h := dwp_agg_of Try.isAgg17
theorem ra17 {F : Fr} {S : Hp} : rval Try.prog F (isAgg 17) S = some false := rval_agg Try.isAgg17
theorem ze17 {F : Fr} {h : Hp} {K : Value → Hp → Prop} : dwp Try.prog F (zeroValue 17) h K = K (Go.Value.pointer none) h := dwp_zero_of Try.zeroValue17
theorem rz17 {F : Fr} {S : Hp} : rval Try.prog F (zeroValue 17) S = some (Go.Value.pointer none) := rval_zero Try.zeroValue17
theorem un18 {F : Fr} {h : Hp} {K : TypeDesc → Hp → Prop} : dwp Try.prog F (underlying 18) h K = K (Go.TypeDesc.struct #[{ name := "typ", type := 17, offset := 0, embedded := false, tag := "", pkgPath := "internal/runtime/maps", byteOffset := 0 }]) h := by rw [dwp_underlying, Try.underlying18]; rfl
theorem ru18 {F : Fr} {S : Hp} : rval Try.prog F (underlying 18) S = some (Go.TypeDesc.struct #[{ name := "typ", type := 17, offset := 0, embedded := false, tag := "", pkgPath := "internal/runtime/maps", byteOffset := 0 }]) := rval_un Try.underlying18
theorem sz18 {F : Fr} {h : Hp} {K : Nat → Hp → Prop} : dwp Try.prog F (sizeOf 18) h K = K 1 h := dwp_size_of Try.sizeOf18
theorem rs18 {F : Fr} {S : Hp} : rval Try.prog F (sizeOf 18) S = some 1 := rval_size Try.sizeOf18
theorem ag18 {F : Fr} {h : Hp} {K : Bool → Hp → Prop} : dwp Try.prog F (isAgg 18) h K = K true h := dwp_agg_of Try.isAgg18
theorem ra18 {F : Fr} {S : Hp} : rval Try.prog F (isAgg 18) S = some true := rval_agg Try.isAgg18
theorem ze18 {F : Fr} {h : Hp} {K : Value → Hp → Prop} : dwp Try.prog F (zeroValue 18) h K = K (Go.Value.agg #[Go.Value.pointer none]) h := dwp_zero_of Try.zeroValue18
theorem rz18 {F : Fr} {S : Hp} : rval Try.prog F (zeroValue 18) S = some (Go.Value.agg #[Go.Value.pointer none]) := rval_zero Try.zeroValue18
theorem un19 {F : Fr} {h : Hp} {K : TypeDesc → Hp → Prop} : dwp Try.prog F (underlying 19) h K = K (Go.TypeDesc.struct #[{ name := "typ", type := 17, offset := 0, embedded := false, tag := "", pkgPath := "internal/runtime/maps", byteOffset := 0 }]) h := by rw [dwp_underlying, Try.underlying19]; rfl
theorem ru19 {F : Fr} {S : Hp} : rval Try.prog F (underlying 19) S = some (Go.TypeDesc.struct #[{ name := "typ", type := 17, offset := 0, embedded := false, tag := "", pkgPath := "internal/runtime/maps", byteOffset := 0 }]) := rval_un Try.underlying19
theorem sz19 {F : Fr} {h : Hp} {K : Nat → Hp → Prop} : dwp Try.prog F (sizeOf 19) h K = K 1 h := dwp_size_of Try.sizeOf19
theorem rs19 {F : Fr} {S : Hp} : rval Try.prog F (sizeOf 19) S = some 1 := rval_size Try.sizeOf19
theorem ag19 {F : Fr} {h : Hp} {K : Bool → Hp → Prop} : dwp Try.prog F (isAgg 19) h K = K true h := dwp_agg_of Try.isAgg19
theorem ra19 {F : Fr} {S : Hp} : rval Try.prog F (isAgg 19) S = some true := rval_agg Try.isAgg19
theorem ze19 {F : Fr} {h : Hp} {K : Value → Hp → Prop} : dwp Try.prog F (zeroValue 19) h K = K (Go.Value.agg #[Go.Value.pointer none]) h := dwp_zero_of Try.zeroValue19
theorem rz19 {F : Fr} {S : Hp} : rval Try.prog F (zeroValue 19) S = some (Go.Value.agg #[Go.Value.pointer none]) := rval_zero Try.zeroValue19
theorem un20 {F : Fr} {h : Hp} {K : TypeDesc → Hp → Prop} : dwp Try.prog F (underlying 20) h K = K (Go.TypeDesc.interface #[]) h := by rw [dwp_underlying, Try.underlying20]; rfl
theorem ru20 {F : Fr} {S : Hp} : rval Try.prog F (underlying 20) S = some (Go.TypeDesc.interface #[]) := rval_un Try.underlying20
theorem sz20 {F : Fr} {h : Hp} {K : Nat → Hp → Prop} : dwp Try.prog F (sizeOf 20) h K = K 1 h := dwp_size_of Try.sizeOf20
theorem rs20 {F : Fr} {S : Hp} : rval Try.prog F (sizeOf 20) S = some 1 := rval_size Try.sizeOf20
theorem ag20 {F : Fr} {h : Hp} {K : Bool → Hp → Prop} : dwp Try.prog F (isAgg 20) h K = K false h := dwp_agg_of Try.isAgg20
theorem ra20 {F : Fr} {S : Hp} : rval Try.prog F (isAgg 20) S = some false := rval_agg Try.isAgg20
theorem ze20 {F : Fr} {h : Hp} {K : Value → Hp → Prop} : dwp Try.prog F (zeroValue 20) h K = K Go.Value.nilIface h := dwp_zero_of Try.zeroValue20
theorem rz20 {F : Fr} {S : Hp} : rval Try.prog F (zeroValue 20) S = some (Go.Value.nilIface) := rval_zero Try.zeroValue20
theorem un21 {F : Fr} {h : Hp} {K : TypeDesc → Hp → Prop} : dwp Try.prog F (underlying 21) h K = K (Go.TypeDesc.int Go.IntKind.i32) h := by rw [dwp_underlying, Try.underlying21]; rfl
theorem ru21 {F : Fr} {S : Hp} : rval Try.prog F (underlying 21) S = some (Go.TypeDesc.int Go.IntKind.i32) := rval_un Try.underlying21
theorem sz21 {F : Fr} {h : Hp} {K : Nat → Hp → Prop} : dwp Try.prog F (sizeOf 21) h K = K 1 h := dwp_size_of Try.sizeOf21
theorem rs21 {F : Fr} {S : Hp} : rval Try.prog F (sizeOf 21) S = some 1 := rval_size Try.sizeOf21
theorem ag21 {F : Fr} {h : Hp} {K : Bool → Hp → Prop} : dwp Try.prog F (isAgg 21) h K = K false h := dwp_agg_of Try.isAgg21
theorem ra21 {F : Fr} {S : Hp} : rval Try.prog F (isAgg 21) S = some false := rval_agg Try.isAgg21
theorem ze21 {F : Fr} {h : Hp} {K : Value → Hp → Prop} : dwp Try.prog F (zeroValue 21) h K = K (Go.Value.int Go.IntKind.i32 0) h := dwp_zero_of Try.zeroValue21
theorem rz21 {F : Fr} {S : Hp} : rval Try.prog F (zeroValue 21) S = some (Go.Value.int Go.IntKind.i32 0) := rval_zero Try.zeroValue21
theorem un22 {F : Fr} {h : Hp} {K : TypeDesc → Hp → Prop} : dwp Try.prog F (underlying 22) h K = K (Go.TypeDesc.array 3 5) h := by rw [dwp_underlying, Try.underlying22]; rfl
theorem ru22 {F : Fr} {S : Hp} : rval Try.prog F (underlying 22) S = some (Go.TypeDesc.array 3 5) := rval_un Try.underlying22
theorem ix22 {F : Fr} {h : Hp} {a : Addr} {k : IntKind} {i : Int} {K : Value → Hp → Prop} (h1 : 0 ≤ i) (h2 : i < ((3 : Nat) : Int)) : dwp Try.prog F (Instr.indexAt 22 (.pointer (some a)) (.int k i)) h K = K (.pointer (some (a.add (i.toNat * 1)))) h := dwp_ixA Try.underlying22 Try.sizeOf5 h1 h2
theorem rx22 {F : Fr} {S : Hp} {a : Addr} {k : IntKind} {i : Int} (h1 : 0 ≤ i) (h2 : i < ((3 : Nat) : Int)) : rval Try.prog F (Instr.indexAt 22 (.pointer (some a)) (.int k i)) S = some (.pointer (some (a.add (i.toNat * 1)))) := rval_ixA Try.underlying22 Try.sizeOf5 h1 h2
theorem sz22 {F : Fr} {h : Hp} {K : Nat → Hp → Prop} : dwp Try.prog F (sizeOf 22) h K = K 3 h := dwp_size_of Try.sizeOf22
theorem rs22 {F : Fr} {S : Hp} : rval Try.prog F (sizeOf 22) S = some 3 := rval_size Try.sizeOf22
theorem ag22 {F : Fr} {h : Hp} {K : Bool → Hp → Prop} : dwp Try.prog F (isAgg 22) h K = K true h := dwp_agg_of Try.isAgg22
theorem ra22 {F : Fr} {S : Hp} : rval Try.prog F (isAgg 22) S = some true := rval_agg Try.isAgg22
theorem ze22 {F : Fr} {h : Hp} {K : Value → Hp → Prop} : dwp Try.prog F (zeroValue 22) h K = K (Go.Value.agg #[Go.Value.int Go.IntKind.u8 0, Go.Value.int Go.IntKind.u8 0, Go.Value.int Go.IntKind.u8 0]) h := dwp_zero_of Try.zeroValue22
theorem rz22 {F : Fr} {S : Hp} : rval Try.prog F (zeroValue 22) S = some (Go.Value.agg #[Go.Value.int Go.IntKind.u8 0, Go.Value.int Go.IntKind.u8 0, Go.Value.int Go.IntKind.u8 0]) := rval_zero Try.zeroValue22
theorem un23 {F : Fr} {h : Hp} {K : TypeDesc → Hp → Prop} : dwp Try.prog F (underlying 23) h K = K (Go.TypeDesc.array 4 5) h := by rw [dwp_underlying, Try.underlying23]; rfl
theorem ru23 {F : Fr} {S : Hp} : rval Try.prog F (underlying 23) S = some (Go.TypeDesc.array 4 5) := rval_un Try.underlying23
theorem ix23 {F : Fr} {h : Hp} {a : Addr} {k : IntKind} {i : Int} {K : Value → Hp → Prop} (h1 : 0 ≤ i) (h2 : i < ((4 : Nat) : Int)) : dwp Try.prog F (Instr.indexAt 23 (.pointer (some a)) (.int k i)) h K = K (.pointer (some (a.add (i.toNat * 1)))) h := dwp_ixA Try.underlying23 Try.sizeOf5 h1 h2
theorem rx23 {F : Fr} {S : Hp} {a : Addr} {k : IntKind} {i : Int} (h1 : 0 ≤ i) (h2 : i < ((4 : Nat) : Int)) : rval Try.prog F (Instr.indexAt 23 (.pointer (some a)) (.int k i)) S = some (.pointer (some (a.add (i.toNat * 1)))) := rval_ixA Try.underlying23 Try.sizeOf5 h1 h2
theorem sz23 {F : Fr} {h : Hp} {K : Nat → Hp → Prop} : dwp Try.prog F (sizeOf 23) h K = K 4 h := dwp_size_of Try.sizeOf23
theorem rs23 {F : Fr} {S : Hp} : rval Try.prog F (sizeOf 23) S = some 4 := rval_size Try.sizeOf23
theorem ag23 {F : Fr} {h : Hp} {K : Bool → Hp → Prop} : dwp Try.prog F (isAgg 23) h K = K true h := dwp_agg_of Try.isAgg23
theorem ra23 {F : Fr} {S : Hp} : rval Try.prog F (isAgg 23) S = some true := rval_agg Try.isAgg23
theorem ze23 {F : Fr} {h : Hp} {K : Value → Hp → Prop} : dwp Try.prog F (zeroValue 23) h K = K (Go.Value.agg #[Go.Value.int Go.IntKind.u8 0, Go.Value.int Go.IntKind.u8 0, Go.Value.int Go.IntKind.u8 0, Go.Value.int Go.IntKind.u8 0]) h := dwp_zero_of Try.zeroValue23
theorem rz23 {F : Fr} {S : Hp} : rval Try.prog F (zeroValue 23) S = some (Go.Value.agg #[Go.Value.int Go.IntKind.u8 0, Go.Value.int Go.IntKind.u8 0, Go.Value.int Go.IntKind.u8 0, Go.Value.int Go.IntKind.u8 0]) := rval_zero Try.zeroValue23
theorem un24 {F : Fr} {h : Hp} {K : TypeDesc → Hp → Prop} : dwp Try.prog F (underlying 24) h K = K (Go.TypeDesc.array 2 5) h := by rw [dwp_underlying, Try.underlying24]; rfl
theorem ru24 {F : Fr} {S : Hp} : rval Try.prog F (underlying 24) S = some (Go.TypeDesc.array 2 5) := rval_un Try.underlying24
theorem ix24 {F : Fr} {h : Hp} {a : Addr} {k : IntKind} {i : Int} {K : Value → Hp → Prop} (h1 : 0 ≤ i) (h2 : i < ((2 : Nat) : Int)) : dwp Try.prog F (Instr.indexAt 24 (.pointer (some a)) (.int k i)) h K = K (.pointer (some (a.add (i.toNat * 1)))) h := dwp_ixA Try.underlying24 Try.sizeOf5 h1 h2
theorem rx24 {F : Fr} {S : Hp} {a : Addr} {k : IntKind} {i : Int} (h1 : 0 ≤ i) (h2 : i < ((2 : Nat) : Int)) : rval Try.prog F (Instr.indexAt 24 (.pointer (some a)) (.int k i)) S = some (.pointer (some (a.add (i.toNat * 1)))) := rval_ixA Try.underlying24 Try.sizeOf5 h1 h2
theorem sz24 {F : Fr} {h : Hp} {K : Nat → Hp → Prop} : dwp Try.prog F (sizeOf 24) h K = K 2 h := dwp_size_of Try.sizeOf24
theorem rs24 {F : Fr} {S : Hp} : rval Try.prog F (sizeOf 24) S = some 2 := rval_size Try.sizeOf24
theorem ag24 {F : Fr} {h : Hp} {K : Bool → Hp → Prop} : dwp Try.prog F (isAgg 24) h K = K true h := dwp_agg_of Try.isAgg24
theorem ra24 {F : Fr} {S : Hp} : rval Try.prog F (isAgg 24) S = some true := rval_agg Try.isAgg24
theorem ze24 {F : Fr} {h : Hp} {K : Value → Hp → Prop} : dwp Try.prog F (zeroValue 24) h K = K (Go.Value.agg #[Go.Value.int Go.IntKind.u8 0, Go.Value.int Go.IntKind.u8 0]) h := dwp_zero_of Try.zeroValue24
theorem rz24 {F : Fr} {S : Hp} : rval Try.prog F (zeroValue 24) S = some (Go.Value.agg #[Go.Value.int Go.IntKind.u8 0, Go.Value.int Go.IntKind.u8 0]) := rval_zero Try.zeroValue24
theorem un25 {F : Fr} {h : Hp} {K : TypeDesc → Hp → Prop} : dwp Try.prog F (underlying 25) h K = K (Go.TypeDesc.struct #[{ name := "Sizes", type := 22, offset := 0, embedded := false, tag := "", pkgPath := "", byteOffset := 0 }, { name := "On", type := 23, offset := 3, embedded := false, tag := "", pkgPath := "", byteOffset := 3 }, { name := "Stiff", type := 24, offset := 7, embedded := false, tag := "", pkgPath := "", byteOffset := 7 }]) h := by rw [dwp_underlying, Try.underlying25]; rfl
theorem ru25 {F : Fr} {S : Hp} : rval Try.prog F (underlying 25) S = some (Go.TypeDesc.struct #[{ name := "Sizes", type := 22, offset := 0, embedded := false, tag := "", pkgPath := "", byteOffset := 0 }, { name := "On", type := 23, offset := 3, embedded := false, tag := "", pkgPath := "", byteOffset := 3 }, { name := "Stiff", type := 24, offset := 7, embedded := false, tag := "", pkgPath := "", byteOffset := 7 }]) := rval_un Try.underlying25
theorem sz25 {F : Fr} {h : Hp} {K : Nat → Hp → Prop} : dwp Try.prog F (sizeOf 25) h K = K 9 h := dwp_size_of Try.sizeOf25
theorem rs25 {F : Fr} {S : Hp} : rval Try.prog F (sizeOf 25) S = some 9 := rval_size Try.sizeOf25
theorem ag25 {F : Fr} {h : Hp} {K : Bool → Hp → Prop} : dwp Try.prog F (isAgg 25) h K = K true h := dwp_agg_of Try.isAgg25
theorem ra25 {F : Fr} {S : Hp} : rval Try.prog F (isAgg 25) S = some true := rval_agg Try.isAgg25
theorem ze25 {F : Fr} {h : Hp} {K : Value → Hp → Prop} : dwp Try.prog F (zeroValue 25) h K = K (Go.Value.agg #[Go.Value.int Go.IntKind.u8 0, Go.Value.int Go.IntKind.u8 0, Go.Value.int Go.IntKind.u8 0, Go.Value.int Go.IntKind.u8 0, Go.Value.int Go.IntKind.u8 0, Go.Value.int Go.IntKind.u8 0, Go.Value.int Go.IntKind.u8 0, Go.Value.int Go.IntKind.u8 0, Go.Value.int Go.IntKind.u8 0]) h := dwp_zero_of Try.zeroValue25
theorem rz25 {F : Fr} {S : Hp} : rval Try.prog F (zeroValue 25) S = some (Go.Value.agg #[Go.Value.int Go.IntKind.u8 0, Go.Value.int Go.IntKind.u8 0, Go.Value.int Go.IntKind.u8 0, Go.Value.int Go.IntKind.u8 0, Go.Value.int Go.IntKind.u8 0, Go.Value.int Go.IntKind.u8 0, Go.Value.int Go.IntKind.u8 0, Go.Value.int Go.IntKind.u8 0, Go.Value.int Go.IntKind.u8 0]) := rval_zero Try.zeroValue25
theorem un26 {F : Fr} {h : Hp} {K : TypeDesc → Hp → Prop} : dwp Try.prog F (underlying 26) h K = K (Go.TypeDesc.struct #[{ name := "Sizes", type := 22, offset := 0, embedded := false, tag := "", pkgPath := "", byteOffset := 0 }, { name := "On", type := 23, offset := 3, embedded := false, tag := "", pkgPath := "", byteOffset := 3 }, { name := "Stiff", type := 24, offset := 7, embedded := false, tag := "", pkgPath := "", byteOffset := 7 }]) h := by rw [dwp_underlying, Try.underlying26]; rfl
theorem ru26 {F : Fr} {S : Hp} : rval Try.prog F (underlying 26) S = some (Go.TypeDesc.struct #[{ name := "Sizes", type := 22, offset := 0, embedded := false, tag := "", pkgPath := "", byteOffset := 0 }, { name := "On", type := 23, offset := 3, embedded := false, tag := "", pkgPath := "", byteOffset := 3 }, { name := "Stiff", type := 24, offset := 7, embedded := false, tag := "", pkgPath := "", byteOffset := 7 }]) := rval_un Try.underlying26
theorem sz26 {F : Fr} {h : Hp} {K : Nat → Hp → Prop} : dwp Try.prog F (sizeOf 26) h K = K 9 h := dwp_size_of Try.sizeOf26
theorem rs26 {F : Fr} {S : Hp} : rval Try.prog F (sizeOf 26) S = some 9 := rval_size Try.sizeOf26
theorem ag26 {F : Fr} {h : Hp} {K : Bool → Hp → Prop} : dwp Try.prog F (isAgg 26) h K = K true h := dwp_agg_of Try.isAgg26
theorem ra26 {F : Fr} {S : Hp} : rval Try.prog F (isAgg 26) S = some true := rval_agg Try.isAgg26
theorem ze26 {F : Fr} {h : Hp} {K : Value → Hp → Prop} : dwp Try.prog F (zeroValue 26) h K = K (Go.Value.agg #[Go.Value.int Go.IntKind.u8 0, Go.Value.int Go.IntKind.u8 0, Go.Value.int Go.IntKind.u8 0, Go.Value.int Go.IntKind.u8 0, Go.Value.int Go.IntKind.u8 0, Go.Value.int Go.IntKind.u8 0, Go.Value.int Go.IntKind.u8 0, Go.Value.int Go.IntKind.u8 0, Go.Value.int Go.IntKind.u8 0]) h := dwp_zero_of Try.zeroValue26
theorem rz26 {F : Fr} {S : Hp} : rval Try.prog F (zeroValue 26) S = some (Go.Value.agg #[Go.Value.int Go.IntKind.u8 0, Go.Value.int Go.IntKind.u8 0, Go.Value.int Go.IntKind.u8 0, Go.Value.int Go.IntKind.u8 0, Go.Value.int Go.IntKind.u8 0, Go.Value.int Go.IntKind.u8 0, Go.Value.int Go.IntKind.u8 0, Go.Value.int Go.IntKind.u8 0, Go.Value.int Go.IntKind.u8 0]) := rval_zero Try.zeroValue26
theorem un27 {F : Fr} {h : Hp} {K : TypeDesc → Hp → Prop} : dwp Try.prog F (underlying 27) h K = K (Go.TypeDesc.int Go.IntKind.u16) h := by rw [dwp_underlying, Try.underlying27]; rfl
theorem ru27 {F : Fr} {S : Hp} : rval Try.prog F (underlying 27) S = some (Go.TypeDesc.int Go.IntKind.u16) := rval_un Try.underlying27
theorem sz27 {F : Fr} {h : Hp} {K : Nat → Hp → Prop} : dwp Try.prog F (sizeOf 27) h K = K 1 h := dwp_size_of Try.sizeOf27
theorem rs27 {F : Fr} {S : Hp} : rval Try.prog F (sizeOf 27) S = some 1 := rval_size Try.sizeOf27
theorem ag27 {F : Fr} {h : Hp} {K : Bool → Hp → Prop} : dwp Try.prog F (isAgg 27) h K = K false h := dwp_agg_of Try.isAgg27
theorem ra27 {F : Fr} {S : Hp} : rval Try.prog F (isAgg 27) S = some false := rval_agg Try.isAgg27
theorem ze27 {F : Fr} {h : Hp} {K : Value → Hp → Prop} : dwp Try.prog F (zeroValue 27) h K = K (Go.Value.int Go.IntKind.u16 0) h := dwp_zero_of Try.zeroValue27
theorem rz27 {F : Fr} {S : Hp} : rval Try.prog F (zeroValue 27) S = some (Go.Value.int Go.IntKind.u16 0) := rval_zero Try.zeroValue27
theorem un28 {F : Fr} {h : Hp} {K : TypeDesc → Hp → Prop} : dwp Try.prog F (underlying 28) h K = K (Go.TypeDesc.array 2 27) h := by rw [dwp_underlying, Try.underlying28]; rfl
theorem ru28 {F : Fr} {S : Hp} : rval Try.prog F (underlying 28) S = some (Go.TypeDesc.array 2 27) := rval_un Try.underlying28
theorem ix28 {F : Fr} {h : Hp} {a : Addr} {k : IntKind} {i : Int} {K : Value → Hp → Prop} (h1 : 0 ≤ i) (h2 : i < ((2 : Nat) : Int)) : dwp Try.prog F (Instr.indexAt 28 (.pointer (some a)) (.int k i)) h K = K (.pointer (some (a.add (i.toNat * 1)))) h := dwp_ixA Try.underlying28 Try.sizeOf27 h1 h2
theorem rx28 {F : Fr} {S : Hp} {a : Addr} {k : IntKind} {i : Int} (h1 : 0 ≤ i) (h2 : i < ((2 : Nat) : Int)) : rval Try.prog F (Instr.indexAt 28 (.pointer (some a)) (.int k i)) S = some (.pointer (some (a.add (i.toNat * 1)))) := rval_ixA Try.underlying28 Try.sizeOf27 h1 h2
theorem sz28 {F : Fr} {h : Hp} {K : Nat → Hp → Prop} : dwp Try.prog F (sizeOf 28) h K = K 2 h := dwp_size_of Try.sizeOf28
theorem rs28 {F : Fr} {S : Hp} : rval Try.prog F (sizeOf 28) S = some 2 := rval_size Try.sizeOf28
theorem ag28 {F : Fr} {h : Hp} {K : Bool → Hp → Prop} : dwp Try.prog F (isAgg 28) h K = K true h := dwp_agg_of Try.isAgg28
theorem ra28 {F : Fr} {S : Hp} : rval Try.prog F (isAgg 28) S = some true := rval_agg Try.isAgg28
theorem ze28 {F : Fr} {h : Hp} {K : Value → Hp → Prop} : dwp Try.prog F (zeroValue 28) h K = K (Go.Value.agg #[Go.Value.int Go.IntKind.u16 0, Go.Value.int Go.IntKind.u16 0]) h := dwp_zero_of Try.zeroValue28
theorem rz28 {F : Fr} {S : Hp} : rval Try.prog F (zeroValue 28) S = some (Go.Value.agg #[Go.Value.int Go.IntKind.u16 0, Go.Value.int Go.IntKind.u16 0]) := rval_zero Try.zeroValue28
theorem un29 {F : Fr} {h : Hp} {K : TypeDesc → Hp → Prop} : dwp Try.prog F (underlying 29) h K = K (Go.TypeDesc.struct #[{ name := "Low", type := 3, offset := 0, embedded := false, tag := "", pkgPath := "", byteOffset := 0 }, { name := "High", type := 3, offset := 1, embedded := false, tag := "", pkgPath := "", byteOffset := 8 }]) h := by rw [dwp_underlying, Try.underlying29]; rfl
theorem ru29 {F : Fr} {S : Hp} : rval Try.prog F (underlying 29) S = some (Go.TypeDesc.struct #[{ name := "Low", type := 3, offset := 0, embedded := false, tag := "", pkgPath := "", byteOffset := 0 }, { name := "High", type := 3, offset := 1, embedded := false, tag := "", pkgPath := "", byteOffset := 8 }]) := rval_un Try.underlying29
theorem sz29 {F : Fr} {h : Hp} {K : Nat → Hp → Prop} : dwp Try.prog F (sizeOf 29) h K = K 2 h := dwp_size_of Try.sizeOf29
theorem rs29 {F : Fr} {S : Hp} : rval Try.prog F (sizeOf 29) S = some 2 := rval_size Try.sizeOf29
theorem ag29 {F : Fr} {h : Hp} {K : Bool → Hp → Prop} : dwp Try.prog F (isAgg 29) h K = K true h := dwp_agg_of Try.isAgg29
theorem ra29 {F : Fr} {S : Hp} : rval Try.prog F (isAgg 29) S = some true := rval_agg Try.isAgg29
theorem ze29 {F : Fr} {h : Hp} {K : Value → Hp → Prop} : dwp Try.prog F (zeroValue 29) h K = K (Go.Value.agg #[Go.Value.int Go.IntKind.i64 0, Go.Value.int Go.IntKind.i64 0]) h := dwp_zero_of Try.zeroValue29
theorem rz29 {F : Fr} {S : Hp} : rval Try.prog F (zeroValue 29) S = some (Go.Value.agg #[Go.Value.int Go.IntKind.i64 0, Go.Value.int Go.IntKind.i64 0]) := rval_zero Try.zeroValue29
theorem un30 {F : Fr} {h : Hp} {K : TypeDesc → Hp → Prop} : dwp Try.prog F (underlying 30) h K = K (Go.TypeDesc.struct #[{ name := "Low", type := 3, offset := 0, embedded := false, tag := "", pkgPath := "", byteOffset := 0 }, { name := "High", type := 3, offset := 1, embedded := false, tag := "", pkgPath := "", byteOffset := 8 }]) h := by rw [dwp_underlying, Try.underlying30]; rfl
theorem ru30 {F : Fr} {S : Hp} : rval Try.prog F (underlying 30) S = some (Go.TypeDesc.struct #[{ name := "Low", type := 3, offset := 0, embedded := false, tag := "", pkgPath := "", byteOffset := 0 }, { name := "High", type := 3, offset := 1, embedded := false, tag := "", pkgPath := "", byteOffset := 8 }]) := rval_un Try.underlying30
theorem sz30 {F : Fr} {h : Hp} {K : Nat → Hp → Prop} : dwp Try.prog F (sizeOf 30) h K = K 2 h := dwp_size_of Try.sizeOf30
theorem rs30 {F : Fr} {S : Hp} : rval Try.prog F (sizeOf 30) S = some 2 := rval_size Try.sizeOf30
theorem ag30 {F : Fr} {h : Hp} {K : Bool → Hp → Prop} : dwp Try.prog F (isAgg 30) h K = K true h := dwp_agg_of Try.isAgg30
theorem ra30 {F : Fr} {S : Hp} : rval Try.prog F (isAgg 30) S = some true := rval_agg Try.isAgg30
theorem ze30 {F : Fr} {h : Hp} {K : Value → Hp → Prop} : dwp Try.prog F (zeroValue 30) h K = K (Go.Value.agg #[Go.Value.int Go.IntKind.i64 0, Go.Value.int Go.IntKind.i64 0]) h := dwp_zero_of Try.zeroValue30
theorem rz30 {F : Fr} {S : Hp} : rval Try.prog F (zeroValue 30) S = some (Go.Value.agg #[Go.Value.int Go.IntKind.i64 0, Go.Value.int Go.IntKind.i64 0]) := rval_zero Try.zeroValue30
theorem un31 {F : Fr} {h : Hp} {K : TypeDesc → Hp → Prop} : dwp Try.prog F (underlying 31) h K = K (Go.TypeDesc.struct #[{ name := "Lead", type := 3, offset := 0, embedded := false, tag := "", pkgPath := "", byteOffset := 0 }, { name := "Thread", type := 3, offset := 1, embedded := false, tag := "", pkgPath := "", byteOffset := 8 }, { name := "Head", type := 3, offset := 2, embedded := false, tag := "", pkgPath := "", byteOffset := 16 }, { name := "OnThread", type := 30, offset := 3, embedded := false, tag := "", pkgPath := "", byteOffset := 24 }, { name := "OnHead", type := 30, offset := 5, embedded := false, tag := "", pkgPath := "", byteOffset := 40 }, { name := "Stiff", type := 30, offset := 7, embedded := false, tag := "", pkgPath := "", byteOffset := 56 }, { name := "Spring", type := 30, offset := 9, embedded := false, tag := "", pkgPath := "", byteOffset := 72 }, { name := "Yield", type := 30, offset := 11, embedded := false, tag := "", pkgPath := "", byteOffset := 88 }]) h := by rw [dwp_underlying, Try.underlying31]; rfl
theorem ru31 {F : Fr} {S : Hp} : rval Try.prog F (underlying 31) S = some (Go.TypeDesc.struct #[{ name := "Lead", type := 3, offset := 0, embedded := false, tag := "", pkgPath := "", byteOffset := 0 }, { name := "Thread", type := 3, offset := 1, embedded := false, tag := "", pkgPath := "", byteOffset := 8 }, { name := "Head", type := 3, offset := 2, embedded := false, tag := "", pkgPath := "", byteOffset := 16 }, { name := "OnThread", type := 30, offset := 3, embedded := false, tag := "", pkgPath := "", byteOffset := 24 }, { name := "OnHead", type := 30, offset := 5, embedded := false, tag := "", pkgPath := "", byteOffset := 40 }, { name := "Stiff", type := 30, offset := 7, embedded := false, tag := "", pkgPath := "", byteOffset := 56 }, { name := "Spring", type := 30, offset := 9, embedded := false, tag := "", pkgPath := "", byteOffset := 72 }, { name := "Yield", type := 30, offset := 11, embedded := false, tag := "", pkgPath := "", byteOffset := 88 }]) := rval_un Try.underlying31
theorem sz31 {F : Fr} {h : Hp} {K : Nat → Hp → Prop} : dwp Try.prog F (sizeOf 31) h K = K 13 h := dwp_size_of Try.sizeOf31
theorem rs31 {F : Fr} {S : Hp} : rval Try.prog F (sizeOf 31) S = some 13 := rval_size Try.sizeOf31
theorem ag31 {F : Fr} {h : Hp} {K : Bool → Hp → Prop} : dwp Try.prog F (isAgg 31) h K = K true h := dwp_agg_of Try.isAgg31
theorem ra31 {F : Fr} {S : Hp} : rval Try.prog F (isAgg 31) S = some true := rval_agg Try.isAgg31
theorem ze31 {F : Fr} {h : Hp} {K : Value → Hp → Prop} : dwp Try.prog F (zeroValue 31) h K = K (Go.Value.agg #[Go.Value.int Go.IntKind.i64 0, Go.Value.int Go.IntKind.i64 0, Go.Value.int Go.IntKind.i64 0, Go.Value.int Go.IntKind.i64 0, Go.Value.int Go.IntKind.i64 0, Go.Value.int Go.IntKind.i64 0, Go.Value.int Go.IntKind.i64 0, Go.Value.int Go.IntKind.i64 0, Go.Value.int Go.IntKind.i64 0, Go.Value.int Go.IntKind.i64 0, Go.Value.int Go.IntKind.i64 0, Go.Value.int Go.IntKind.i64 0, Go.Value.int Go.IntKind.i64 0]) h := dwp_zero_of Try.zeroValue31
theorem rz31 {F : Fr} {S : Hp} : rval Try.prog F (zeroValue 31) S = some (Go.Value.agg #[Go.Value.int Go.IntKind.i64 0, Go.Value.int Go.IntKind.i64 0, Go.Value.int Go.IntKind.i64 0, Go.Value.int Go.IntKind.i64 0, Go.Value.int Go.IntKind.i64 0, Go.Value.int Go.IntKind.i64 0, Go.Value.int Go.IntKind.i64 0, Go.Value.int Go.IntKind.i64 0, Go.Value.int Go.IntKind.i64 0, Go.Value.int Go.IntKind.i64 0, Go.Value.int Go.IntKind.i64 0, Go.Value.int Go.IntKind.i64 0, Go.Value.int Go.IntKind.i64 0]) := rval_zero Try.zeroValue31
theorem un32 {F : Fr} {h : Hp} {K : TypeDesc → Hp → Prop} : dwp Try.prog F (underlying 32) h K = K (Go.TypeDesc.struct #[{ name := "Lead", type := 3, offset := 0, embedded := false, tag := "", pkgPath := "", byteOffset := 0 }, { name := "Thread", type := 3, offset := 1, embedded := false, tag := "", pkgPath := "", byteOffset := 8 }, { name := "Head", type := 3, offset := 2, embedded := false, tag := "", pkgPath := "", byteOffset := 16 }, { name := "OnThread", type := 30, offset := 3, embedded := false, tag := "", pkgPath := "", byteOffset := 24 }, { name := "OnHead", type := 30, offset := 5, embedded := false, tag := "", pkgPath := "", byteOffset := 40 }, { name := "Stiff", type := 30, offset := 7, embedded := false, tag := "", pkgPath := "", byteOffset := 56 }, { name := "Spring", type := 30, offset := 9, embedded := false, tag := "", pkgPath := "", byteOffset := 72 }, { name := "Yield", type := 30, offset := 11, embedded := false, tag := "", pkgPath := "", byteOffset := 88 }]) h := by rw [dwp_underlying, Try.underlying32]; rfl
theorem ru32 {F : Fr} {S : Hp} : rval Try.prog F (underlying 32) S = some (Go.TypeDesc.struct #[{ name := "Lead", type := 3, offset := 0, embedded := false, tag := "", pkgPath := "", byteOffset := 0 }, { name := "Thread", type := 3, offset := 1, embedded := false, tag := "", pkgPath := "", byteOffset := 8 }, { name := "Head", type := 3, offset := 2, embedded := false, tag := "", pkgPath := "", byteOffset := 16 }, { name := "OnThread", type := 30, offset := 3, embedded := false, tag := "", pkgPath := "", byteOffset := 24 }, { name := "OnHead", type := 30, offset := 5, embedded := false, tag := "", pkgPath := "", byteOffset := 40 }, { name := "Stiff", type := 30, offset := 7, embedded := false, tag := "", pkgPath := "", byteOffset := 56 }, { name := "Spring", type := 30, offset := 9, embedded := false, tag := "", pkgPath := "", byteOffset := 72 }, { name := "Yield", type := 30, offset := 11, embedded := false, tag := "", pkgPath := "", byteOffset := 88 }]) := rval_un Try.underlying32
theorem sz32 {F : Fr} {h : Hp} {K : Nat → Hp → Prop} : dwp Try.prog F (sizeOf 32) h K = K 13 h := dwp_size_of Try.sizeOf32
theorem rs32 {F : Fr} {S : Hp} : rval Try.prog F (sizeOf 32) S = some 13 := rval_size Try.sizeOf32
theorem ag32 {F : Fr} {h : Hp} {K : Bool → Hp → Prop} : dwp Try.prog F (isAgg 32) h K = K true h := dwp_agg_of Try.isAgg32
theorem ra32 {F : Fr} {S : Hp} : rval Try.prog F (isAgg 32) S = some true := rval_agg Try.isAgg32
theorem ze32 {F : Fr} {h : Hp} {K : Value → Hp → Prop} : dwp Try.prog F (zeroValue 32) h K = K (Go.Value.agg #[Go.Value.int Go.IntKind.i64 0, Go.Value.int Go.IntKind.i64 0, Go.Value.int Go.IntKind.i64 0, Go.Value.int Go.IntKind.i64 0, Go.Value.int Go.IntKind.i64 0, Go.Value.int Go.IntKind.i64 0, Go.Value.int Go.IntKind.i64 0, Go.Value.int Go.IntKind.i64 0, Go.Value.int Go.IntKind.i64 0, Go.Value.int Go.IntKind.i64 0, Go.Value.int Go.IntKind.i64 0, Go.Value.int Go.IntKind.i64 0, Go.Value.int Go.IntKind.i64 0]) h := dwp_zero_of Try.zeroValue32
theorem rz32 {F : Fr} {S : Hp} : rval Try.prog F (zeroValue 32) S = some (Go.Value.agg #[Go.Value.int Go.IntKind.i64 0, Go.Value.int Go.IntKind.i64 0, Go.Value.int Go.IntKind.i64 0, Go.Value.int Go.IntKind.i64 0, Go.Value.int Go.IntKind.i64 0, Go.Value.int Go.IntKind.i64 0, Go.Value.int Go.IntKind.i64 0, Go.Value.int Go.IntKind.i64 0, Go.Value.int Go.IntKind.i64 0, Go.Value.int Go.IntKind.i64 0, Go.Value.int Go.IntKind.i64 0, Go.Value.int Go.IntKind.i64 0, Go.Value.int Go.IntKind.i64 0]) := rval_zero Try.zeroValue32
theorem un33 {F : Fr} {h : Hp} {K : TypeDesc → Hp → Prop} : dwp Try.prog F (underlying 33) h K = K (Go.TypeDesc.func #[3] #[32] false) h := by rw [dwp_underlying, Try.underlying33]; rfl
theorem ru33 {F : Fr} {S : Hp} : rval Try.prog F (underlying 33) S = some (Go.TypeDesc.func #[3] #[32] false) := rval_un Try.underlying33
theorem sz33 {F : Fr} {h : Hp} {K : Nat → Hp → Prop} : dwp Try.prog F (sizeOf 33) h K = K 1 h := dwp_size_of Try.sizeOf33
theorem rs33 {F : Fr} {S : Hp} : rval Try.prog F (sizeOf 33) S = some 1 := rval_size Try.sizeOf33
theorem ag33 {F : Fr} {h : Hp} {K : Bool → Hp → Prop} : dwp Try.prog F (isAgg 33) h K = K false h := dwp_agg_of Try.isAgg33
theorem ra33 {F : Fr} {S : Hp} : rval Try.prog F (isAgg 33) S = some false := rval_agg Try.isAgg33
theorem ze33 {F : Fr} {h : Hp} {K : Value → Hp → Prop} : dwp Try.prog F (zeroValue 33) h K = K Go.Value.nilFunc h := dwp_zero_of Try.zeroValue33
theorem rz33 {F : Fr} {S : Hp} : rval Try.prog F (zeroValue 33) S = some (Go.Value.nilFunc) := rval_zero Try.zeroValue33
theorem un34 {F : Fr} {h : Hp} {K : TypeDesc → Hp → Prop} : dwp Try.prog F (underlying 34) h K = K (Go.TypeDesc.func #[3, 3] #[30] false) h := by rw [dwp_underlying, Try.underlying34]; rfl
theorem ru34 {F : Fr} {S : Hp} : rval Try.prog F (underlying 34) S = some (Go.TypeDesc.func #[3, 3] #[30] false) := rval_un Try.underlying34
theorem sz34 {F : Fr} {h : Hp} {K : Nat → Hp → Prop} : dwp Try.prog F (sizeOf 34) h K = K 1 h := dwp_size_of Try.sizeOf34
theorem rs34 {F : Fr} {S : Hp} : rval Try.prog F (sizeOf 34) S = some 1 := rval_size Try.sizeOf34
theorem ag34 {F : Fr} {h : Hp} {K : Bool → Hp → Prop} : dwp Try.prog F (isAgg 34) h K = K false h := dwp_agg_of Try.isAgg34
theorem ra34 {F : Fr} {S : Hp} : rval Try.prog F (isAgg 34) S = some false := rval_agg Try.isAgg34
theorem ze34 {F : Fr} {h : Hp} {K : Value → Hp → Prop} : dwp Try.prog F (zeroValue 34) h K = K Go.Value.nilFunc h := dwp_zero_of Try.zeroValue34
theorem rz34 {F : Fr} {S : Hp} : rval Try.prog F (zeroValue 34) S = some (Go.Value.nilFunc) := rval_zero Try.zeroValue34
theorem un35 {F : Fr} {h : Hp} {K : TypeDesc → Hp → Prop} : dwp Try.prog F (underlying 35) h K = K (Go.TypeDesc.int Go.IntKind.i64) h := by rw [dwp_underlying, Try.underlying35]; rfl
theorem ru35 {F : Fr} {S : Hp} : rval Try.prog F (underlying 35) S = some (Go.TypeDesc.int Go.IntKind.i64) := rval_un Try.underlying35
theorem sz35 {F : Fr} {h : Hp} {K : Nat → Hp → Prop} : dwp Try.prog F (sizeOf 35) h K = K 1 h := dwp_size_of Try.sizeOf35
theorem rs35 {F : Fr} {S : Hp} : rval Try.prog F (sizeOf 35) S = some 1 := rval_size Try.sizeOf35
theorem ag35 {F : Fr} {h : Hp} {K : Bool → Hp → Prop} : dwp Try.prog F (isAgg 35) h K = K false h := dwp_agg_of Try.isAgg35
theorem ra35 {F : Fr} {S : Hp} : rval Try.prog F (isAgg 35) S = some false := rval_agg Try.isAgg35
theorem ze35 {F : Fr} {h : Hp} {K : Value → Hp → Prop} : dwp Try.prog F (zeroValue 35) h K = K (Go.Value.int Go.IntKind.i64 0) h := dwp_zero_of Try.zeroValue35
theorem rz35 {F : Fr} {S : Hp} : rval Try.prog F (zeroValue 35) S = some (Go.Value.int Go.IntKind.i64 0) := rval_zero Try.zeroValue35
theorem un36 {F : Fr} {h : Hp} {K : TypeDesc → Hp → Prop} : dwp Try.prog F (underlying 36) h K = K (Go.TypeDesc.tuple #[30, 35]) h := by rw [dwp_underlying, Try.underlying36]; rfl
theorem ru36 {F : Fr} {S : Hp} : rval Try.prog F (underlying 36) S = some (Go.TypeDesc.tuple #[30, 35]) := rval_un Try.underlying36
theorem sz36 {F : Fr} {h : Hp} {K : Nat → Hp → Prop} : dwp Try.prog F (sizeOf 36) h K = K 1 h := dwp_size_of Try.sizeOf36
theorem rs36 {F : Fr} {S : Hp} : rval Try.prog F (sizeOf 36) S = some 1 := rval_size Try.sizeOf36
theorem ag36 {F : Fr} {h : Hp} {K : Bool → Hp → Prop} : dwp Try.prog F (isAgg 36) h K = K false h := dwp_agg_of Try.isAgg36
theorem ra36 {F : Fr} {S : Hp} : rval Try.prog F (isAgg 36) S = some false := rval_agg Try.isAgg36
theorem ze36 {F : Fr} {h : Hp} {K : Value → Hp → Prop} : dwp Try.prog F (zeroValue 36) h K = K (Go.Value.tuple #[Go.Value.agg #[Go.Value.int Go.IntKind.i64 0, Go.Value.int Go.IntKind.i64 0], Go.Value.int Go.IntKind.i64 0]) h := dwp_zero_of Try.zeroValue36
theorem rz36 {F : Fr} {S : Hp} : rval Try.prog F (zeroValue 36) S = some (Go.Value.tuple #[Go.Value.agg #[Go.Value.int Go.IntKind.i64 0, Go.Value.int Go.IntKind.i64 0], Go.Value.int Go.IntKind.i64 0]) := rval_zero Try.zeroValue36
theorem un37 {F : Fr} {h : Hp} {K : TypeDesc → Hp → Prop} : dwp Try.prog F (underlying 37) h K = K (Go.TypeDesc.func #[32, 30, 30] #[30, 35] false) h := by rw [dwp_underlying, Try.underlying37]; rfl
theorem ru37 {F : Fr} {S : Hp} : rval Try.prog F (underlying 37) S = some (Go.TypeDesc.func #[32, 30, 30] #[30, 35] false) := rval_un Try.underlying37
theorem sz37 {F : Fr} {h : Hp} {K : Nat → Hp → Prop} : dwp Try.prog F (sizeOf 37) h K = K 1 h := dwp_size_of Try.sizeOf37
theorem rs37 {F : Fr} {S : Hp} : rval Try.prog F (sizeOf 37) S = some 1 := rval_size Try.sizeOf37
theorem ag37 {F : Fr} {h : Hp} {K : Bool → Hp → Prop} : dwp Try.prog F (isAgg 37) h K = K false h := dwp_agg_of Try.isAgg37
theorem ra37 {F : Fr} {S : Hp} : rval Try.prog F (isAgg 37) S = some false := rval_agg Try.isAgg37
theorem ze37 {F : Fr} {h : Hp} {K : Value → Hp → Prop} : dwp Try.prog F (zeroValue 37) h K = K Go.Value.nilFunc h := dwp_zero_of Try.zeroValue37
theorem rz37 {F : Fr} {S : Hp} : rval Try.prog F (zeroValue 37) S = some (Go.Value.nilFunc) := rval_zero Try.zeroValue37
theorem un38 {F : Fr} {h : Hp} {K : TypeDesc → Hp → Prop} : dwp Try.prog F (underlying 38) h K = K (Go.TypeDesc.struct #[{ name := "Num", type := 3, offset := 0, embedded := false, tag := "", pkgPath := "", byteOffset := 0 }, { name := "Den", type := 3, offset := 1, embedded := false, tag := "", pkgPath := "", byteOffset := 8 }]) h := by rw [dwp_underlying, Try.underlying38]; rfl
theorem ru38 {F : Fr} {S : Hp} : rval Try.prog F (underlying 38) S = some (Go.TypeDesc.struct #[{ name := "Num", type := 3, offset := 0, embedded := false, tag := "", pkgPath := "", byteOffset := 0 }, { name := "Den", type := 3, offset := 1, embedded := false, tag := "", pkgPath := "", byteOffset := 8 }]) := rval_un Try.underlying38
theorem sz38 {F : Fr} {h : Hp} {K : Nat → Hp → Prop} : dwp Try.prog F (sizeOf 38) h K = K 2 h := dwp_size_of Try.sizeOf38
theorem rs38 {F : Fr} {S : Hp} : rval Try.prog F (sizeOf 38) S = some 2 := rval_size Try.sizeOf38
theorem ag38 {F : Fr} {h : Hp} {K : Bool → Hp → Prop} : dwp Try.prog F (isAgg 38) h K = K true h := dwp_agg_of Try.isAgg38
theorem ra38 {F : Fr} {S : Hp} : rval Try.prog F (isAgg 38) S = some true := rval_agg Try.isAgg38
theorem ze38 {F : Fr} {h : Hp} {K : Value → Hp → Prop} : dwp Try.prog F (zeroValue 38) h K = K (Go.Value.agg #[Go.Value.int Go.IntKind.i64 0, Go.Value.int Go.IntKind.i64 0]) h := dwp_zero_of Try.zeroValue38
theorem rz38 {F : Fr} {S : Hp} : rval Try.prog F (zeroValue 38) S = some (Go.Value.agg #[Go.Value.int Go.IntKind.i64 0, Go.Value.int Go.IntKind.i64 0]) := rval_zero Try.zeroValue38
theorem un39 {F : Fr} {h : Hp} {K : TypeDesc → Hp → Prop} : dwp Try.prog F (underlying 39) h K = K (Go.TypeDesc.struct #[{ name := "Num", type := 3, offset := 0, embedded := false, tag := "", pkgPath := "", byteOffset := 0 }, { name := "Den", type := 3, offset := 1, embedded := false, tag := "", pkgPath := "", byteOffset := 8 }]) h := by rw [dwp_underlying, Try.underlying39]; rfl
theorem ru39 {F : Fr} {S : Hp} : rval Try.prog F (underlying 39) S = some (Go.TypeDesc.struct #[{ name := "Num", type := 3, offset := 0, embedded := false, tag := "", pkgPath := "", byteOffset := 0 }, { name := "Den", type := 3, offset := 1, embedded := false, tag := "", pkgPath := "", byteOffset := 8 }]) := rval_un Try.underlying39
theorem sz39 {F : Fr} {h : Hp} {K : Nat → Hp → Prop} : dwp Try.prog F (sizeOf 39) h K = K 2 h := dwp_size_of Try.sizeOf39
theorem rs39 {F : Fr} {S : Hp} : rval Try.prog F (sizeOf 39) S = some 2 := rval_size Try.sizeOf39
theorem ag39 {F : Fr} {h : Hp} {K : Bool → Hp → Prop} : dwp Try.prog F (isAgg 39) h K = K true h := dwp_agg_of Try.isAgg39
theorem ra39 {F : Fr} {S : Hp} : rval Try.prog F (isAgg 39) S = some true := rval_agg Try.isAgg39
theorem ze39 {F : Fr} {h : Hp} {K : Value → Hp → Prop} : dwp Try.prog F (zeroValue 39) h K = K (Go.Value.agg #[Go.Value.int Go.IntKind.i64 0, Go.Value.int Go.IntKind.i64 0]) h := dwp_zero_of Try.zeroValue39
theorem rz39 {F : Fr} {S : Hp} : rval Try.prog F (zeroValue 39) S = some (Go.Value.agg #[Go.Value.int Go.IntKind.i64 0, Go.Value.int Go.IntKind.i64 0]) := rval_zero Try.zeroValue39
theorem un40 {F : Fr} {h : Hp} {K : TypeDesc → Hp → Prop} : dwp Try.prog F (underlying 40) h K = K (Go.TypeDesc.struct #[{ name := "Thick", type := 30, offset := 0, embedded := false, tag := "", pkgPath := "", byteOffset := 0 }, { name := "Grow", type := 39, offset := 2, embedded := false, tag := "", pkgPath := "", byteOffset := 16 }]) h := by rw [dwp_underlying, Try.underlying40]; rfl
theorem ru40 {F : Fr} {S : Hp} : rval Try.prog F (underlying 40) S = some (Go.TypeDesc.struct #[{ name := "Thick", type := 30, offset := 0, embedded := false, tag := "", pkgPath := "", byteOffset := 0 }, { name := "Grow", type := 39, offset := 2, embedded := false, tag := "", pkgPath := "", byteOffset := 16 }]) := rval_un Try.underlying40
theorem sz40 {F : Fr} {h : Hp} {K : Nat → Hp → Prop} : dwp Try.prog F (sizeOf 40) h K = K 4 h := dwp_size_of Try.sizeOf40
theorem rs40 {F : Fr} {S : Hp} : rval Try.prog F (sizeOf 40) S = some 4 := rval_size Try.sizeOf40
theorem ag40 {F : Fr} {h : Hp} {K : Bool → Hp → Prop} : dwp Try.prog F (isAgg 40) h K = K true h := dwp_agg_of Try.isAgg40
theorem ra40 {F : Fr} {S : Hp} : rval Try.prog F (isAgg 40) S = some true := rval_agg Try.isAgg40
theorem ze40 {F : Fr} {h : Hp} {K : Value → Hp → Prop} : dwp Try.prog F (zeroValue 40) h K = K (Go.Value.agg #[Go.Value.int Go.IntKind.i64 0, Go.Value.int Go.IntKind.i64 0, Go.Value.int Go.IntKind.i64 0, Go.Value.int Go.IntKind.i64 0]) h := dwp_zero_of Try.zeroValue40
theorem rz40 {F : Fr} {S : Hp} : rval Try.prog F (zeroValue 40) S = some (Go.Value.agg #[Go.Value.int Go.IntKind.i64 0, Go.Value.int Go.IntKind.i64 0, Go.Value.int Go.IntKind.i64 0, Go.Value.int Go.IntKind.i64 0]) := rval_zero Try.zeroValue40
theorem un41 {F : Fr} {h : Hp} {K : TypeDesc → Hp → Prop} : dwp Try.prog F (underlying 41) h K = K (Go.TypeDesc.struct #[{ name := "Thick", type := 30, offset := 0, embedded := false, tag := "", pkgPath := "", byteOffset := 0 }, { name := "Grow", type := 39, offset := 2, embedded := false, tag := "", pkgPath := "", byteOffset := 16 }]) h := by rw [dwp_underlying, Try.underlying41]; rfl
theorem ru41 {F : Fr} {S : Hp} : rval Try.prog F (underlying 41) S = some (Go.TypeDesc.struct #[{ name := "Thick", type := 30, offset := 0, embedded := false, tag := "", pkgPath := "", byteOffset := 0 }, { name := "Grow", type := 39, offset := 2, embedded := false, tag := "", pkgPath := "", byteOffset := 16 }]) := rval_un Try.underlying41
theorem sz41 {F : Fr} {h : Hp} {K : Nat → Hp → Prop} : dwp Try.prog F (sizeOf 41) h K = K 4 h := dwp_size_of Try.sizeOf41
theorem rs41 {F : Fr} {S : Hp} : rval Try.prog F (sizeOf 41) S = some 4 := rval_size Try.sizeOf41
theorem ag41 {F : Fr} {h : Hp} {K : Bool → Hp → Prop} : dwp Try.prog F (isAgg 41) h K = K true h := dwp_agg_of Try.isAgg41
theorem ra41 {F : Fr} {S : Hp} : rval Try.prog F (isAgg 41) S = some true := rval_agg Try.isAgg41
theorem ze41 {F : Fr} {h : Hp} {K : Value → Hp → Prop} : dwp Try.prog F (zeroValue 41) h K = K (Go.Value.agg #[Go.Value.int Go.IntKind.i64 0, Go.Value.int Go.IntKind.i64 0, Go.Value.int Go.IntKind.i64 0, Go.Value.int Go.IntKind.i64 0]) h := dwp_zero_of Try.zeroValue41
theorem rz41 {F : Fr} {S : Hp} : rval Try.prog F (zeroValue 41) S = some (Go.Value.agg #[Go.Value.int Go.IntKind.i64 0, Go.Value.int Go.IntKind.i64 0, Go.Value.int Go.IntKind.i64 0, Go.Value.int Go.IntKind.i64 0]) := rval_zero Try.zeroValue41
theorem un42 {F : Fr} {h : Hp} {K : TypeDesc → Hp → Prop} : dwp Try.prog F (underlying 42) h K = K (Go.TypeDesc.func #[30, 4, 41] #[30, 35] false) h := by rw [dwp_underlying, Try.underlying42]; rfl
theorem ru42 {F : Fr} {S : Hp} : rval Try.prog F (underlying 42) S = some (Go.TypeDesc.func #[30, 4, 41] #[30, 35] false) := rval_un Try.underlying42
theorem sz42 {F : Fr} {h : Hp} {K : Nat → Hp → Prop} : dwp Try.prog F (sizeOf 42) h K = K 1 h := dwp_size_of Try.sizeOf42
theorem rs42 {F : Fr} {S : Hp} : rval Try.prog F (sizeOf 42) S = some 1 := rval_size Try.sizeOf42
theorem ag42 {F : Fr} {h : Hp} {K : Bool → Hp → Prop} : dwp Try.prog F (isAgg 42) h K = K false h := dwp_agg_of Try.isAgg42
theorem ra42 {F : Fr} {S : Hp} : rval Try.prog F (isAgg 42) S = some false := rval_agg Try.isAgg42
theorem ze42 {F : Fr} {h : Hp} {K : Value → Hp → Prop} : dwp Try.prog F (zeroValue 42) h K = K Go.Value.nilFunc h := dwp_zero_of Try.zeroValue42
theorem rz42 {F : Fr} {S : Hp} : rval Try.prog F (zeroValue 42) S = some (Go.Value.nilFunc) := rval_zero Try.zeroValue42
theorem un43 {F : Fr} {h : Hp} {K : TypeDesc → Hp → Prop} : dwp Try.prog F (underlying 43) h K = K (Go.TypeDesc.func #[] #[4] false) h := by rw [dwp_underlying, Try.underlying43]; rfl
theorem ru43 {F : Fr} {S : Hp} : rval Try.prog F (underlying 43) S = some (Go.TypeDesc.func #[] #[4] false) := rval_un Try.underlying43
theorem sz43 {F : Fr} {h : Hp} {K : Nat → Hp → Prop} : dwp Try.prog F (sizeOf 43) h K = K 1 h := dwp_size_of Try.sizeOf43
theorem rs43 {F : Fr} {S : Hp} : rval Try.prog F (sizeOf 43) S = some 1 := rval_size Try.sizeOf43
theorem ag43 {F : Fr} {h : Hp} {K : Bool → Hp → Prop} : dwp Try.prog F (isAgg 43) h K = K false h := dwp_agg_of Try.isAgg43
theorem ra43 {F : Fr} {S : Hp} : rval Try.prog F (isAgg 43) S = some false := rval_agg Try.isAgg43
theorem ze43 {F : Fr} {h : Hp} {K : Value → Hp → Prop} : dwp Try.prog F (zeroValue 43) h K = K Go.Value.nilFunc h := dwp_zero_of Try.zeroValue43
theorem rz43 {F : Fr} {S : Hp} : rval Try.prog F (zeroValue 43) S = some (Go.Value.nilFunc) := rval_zero Try.zeroValue43
theorem un44 {F : Fr} {h : Hp} {K : TypeDesc → Hp → Prop} : dwp Try.prog F (underlying 44) h K = K (Go.TypeDesc.array 2 32) h := by rw [dwp_underlying, Try.underlying44]; rfl
theorem ru44 {F : Fr} {S : Hp} : rval Try.prog F (underlying 44) S = some (Go.TypeDesc.array 2 32) := rval_un Try.underlying44
theorem ix44 {F : Fr} {h : Hp} {a : Addr} {k : IntKind} {i : Int} {K : Value → Hp → Prop} (h1 : 0 ≤ i) (h2 : i < ((2 : Nat) : Int)) : dwp Try.prog F (Instr.indexAt 44 (.pointer (some a)) (.int k i)) h K = K (.pointer (some (a.add (i.toNat * 13)))) h := dwp_ixA Try.underlying44 Try.sizeOf32 h1 h2
theorem rx44 {F : Fr} {S : Hp} {a : Addr} {k : IntKind} {i : Int} (h1 : 0 ≤ i) (h2 : i < ((2 : Nat) : Int)) : rval Try.prog F (Instr.indexAt 44 (.pointer (some a)) (.int k i)) S = some (.pointer (some (a.add (i.toNat * 13)))) := rval_ixA Try.underlying44 Try.sizeOf32 h1 h2
theorem sz44 {F : Fr} {h : Hp} {K : Nat → Hp → Prop} : dwp Try.prog F (sizeOf 44) h K = K 26 h := dwp_size_of Try.sizeOf44
theorem rs44 {F : Fr} {S : Hp} : rval Try.prog F (sizeOf 44) S = some 26 := rval_size Try.sizeOf44
theorem ag44 {F : Fr} {h : Hp} {K : Bool → Hp → Prop} : dwp Try.prog F (isAgg 44) h K = K true h := dwp_agg_of Try.isAgg44
theorem ra44 {F : Fr} {S : Hp} : rval Try.prog F (isAgg 44) S = some true := rval_agg Try.isAgg44
theorem ze44 {F : Fr} {h : Hp} {K : Value → Hp → Prop} : dwp Try.prog F (zeroValue 44) h K = K (Go.Value.agg #[Go.Value.int Go.IntKind.i64 0, Go.Value.int Go.IntKind.i64 0, Go.Value.int Go.IntKind.i64 0, Go.Value.int Go.IntKind.i64 0, Go.Value.int Go.IntKind.i64 0, Go.Value.int Go.IntKind.i64 0, Go.Value.int Go.IntKind.i64 0, Go.Value.int Go.IntKind.i64 0, Go.Value.int Go.IntKind.i64 0, Go.Value.int Go.IntKind.i64 0, Go.Value.int Go.IntKind.i64 0, Go.Value.int Go.IntKind.i64 0, Go.Value.int Go.IntKind.i64 0, Go.Value.int Go.IntKind.i64 0, Go.Value.int Go.IntKind.i64 0, Go.Value.int Go.IntKind.i64 0, Go.Value.int Go.IntKind.i64 0, Go.Value.int Go.IntKind.i64 0, Go.Value.int Go.IntKind.i64 0, Go.Value.int Go.IntKind.i64 0, Go.Value.int Go.IntKind.i64 0, Go.Value.int Go.IntKind.i64 0, Go.Value.int Go.IntKind.i64 0, Go.Value.int Go.IntKind.i64 0, Go.Value.int Go.IntKind.i64 0, Go.Value.int Go.IntKind.i64 0]) h := dwp_zero_of Try.zeroValue44
theorem rz44 {F : Fr} {S : Hp} : rval Try.prog F (zeroValue 44) S = some (Go.Value.agg #[Go.Value.int Go.IntKind.i64 0, Go.Value.int Go.IntKind.i64 0, Go.Value.int Go.IntKind.i64 0, Go.Value.int Go.IntKind.i64 0, Go.Value.int Go.IntKind.i64 0, Go.Value.int Go.IntKind.i64 0, Go.Value.int Go.IntKind.i64 0, Go.Value.int Go.IntKind.i64 0, Go.Value.int Go.IntKind.i64 0, Go.Value.int Go.IntKind.i64 0, Go.Value.int Go.IntKind.i64 0, Go.Value.int Go.IntKind.i64 0, Go.Value.int Go.IntKind.i64 0, Go.Value.int Go.IntKind.i64 0, Go.Value.int Go.IntKind.i64 0, Go.Value.int Go.IntKind.i64 0, Go.Value.int Go.IntKind.i64 0, Go.Value.int Go.IntKind.i64 0, Go.Value.int Go.IntKind.i64 0, Go.Value.int Go.IntKind.i64 0, Go.Value.int Go.IntKind.i64 0, Go.Value.int Go.IntKind.i64 0, Go.Value.int Go.IntKind.i64 0, Go.Value.int Go.IntKind.i64 0, Go.Value.int Go.IntKind.i64 0, Go.Value.int Go.IntKind.i64 0]) := rval_zero Try.zeroValue44
theorem un45 {F : Fr} {h : Hp} {K : TypeDesc → Hp → Prop} : dwp Try.prog F (underlying 45) h K = K (Go.TypeDesc.array 2 3) h := by rw [dwp_underlying, Try.underlying45]; rfl
theorem ru45 {F : Fr} {S : Hp} : rval Try.prog F (underlying 45) S = some (Go.TypeDesc.array 2 3) := rval_un Try.underlying45
theorem ix45 {F : Fr} {h : Hp} {a : Addr} {k : IntKind} {i : Int} {K : Value → Hp → Prop} (h1 : 0 ≤ i) (h2 : i < ((2 : Nat) : Int)) : dwp Try.prog F (Instr.indexAt 45 (.pointer (some a)) (.int k i)) h K = K (.pointer (some (a.add (i.toNat * 1)))) h := dwp_ixA Try.underlying45 Try.sizeOf3 h1 h2
theorem rx45 {F : Fr} {S : Hp} {a : Addr} {k : IntKind} {i : Int} (h1 : 0 ≤ i) (h2 : i < ((2 : Nat) : Int)) : rval Try.prog F (Instr.indexAt 45 (.pointer (some a)) (.int k i)) S = some (.pointer (some (a.add (i.toNat * 1)))) := rval_ixA Try.underlying45 Try.sizeOf3 h1 h2
theorem sz45 {F : Fr} {h : Hp} {K : Nat → Hp → Prop} : dwp Try.prog F (sizeOf 45) h K = K 2 h := dwp_size_of Try.sizeOf45
theorem rs45 {F : Fr} {S : Hp} : rval Try.prog F (sizeOf 45) S = some 2 := rval_size Try.sizeOf45
theorem ag45 {F : Fr} {h : Hp} {K : Bool → Hp → Prop} : dwp Try.prog F (isAgg 45) h K = K true h := dwp_agg_of Try.isAgg45
theorem ra45 {F : Fr} {S : Hp} : rval Try.prog F (isAgg 45) S = some true := rval_agg Try.isAgg45
theorem ze45 {F : Fr} {h : Hp} {K : Value → Hp → Prop} : dwp Try.prog F (zeroValue 45) h K = K (Go.Value.agg #[Go.Value.int Go.IntKind.i64 0, Go.Value.int Go.IntKind.i64 0]) h := dwp_zero_of Try.zeroValue45
theorem rz45 {F : Fr} {S : Hp} : rval Try.prog F (zeroValue 45) S = some (Go.Value.agg #[Go.Value.int Go.IntKind.i64 0, Go.Value.int Go.IntKind.i64 0]) := rval_zero Try.zeroValue45
theorem un46 {F : Fr} {h : Hp} {K : TypeDesc → Hp → Prop} : dwp Try.prog F (underlying 46) h K = K (Go.TypeDesc.func #[32, 49] #[30, 35] false) h := by rw [dwp_underlying, Try.underlying46]; rfl
theorem ru46 {F : Fr} {S : Hp} : rval Try.prog F (underlying 46) S = some (Go.TypeDesc.func #[32, 49] #[30, 35] false) := rval_un Try.underlying46
theorem sz46 {F : Fr} {h : Hp} {K : Nat → Hp → Prop} : dwp Try.prog F (sizeOf 46) h K = K 1 h := dwp_size_of Try.sizeOf46
theorem rs46 {F : Fr} {S : Hp} : rval Try.prog F (sizeOf 46) S = some 1 := rval_size Try.sizeOf46
theorem ag46 {F : Fr} {h : Hp} {K : Bool → Hp → Prop} : dwp Try.prog F (isAgg 46) h K = K false h := dwp_agg_of Try.isAgg46
theorem ra46 {F : Fr} {S : Hp} : rval Try.prog F (isAgg 46) S = some false := rval_agg Try.isAgg46
theorem ze46 {F : Fr} {h : Hp} {K : Value → Hp → Prop} : dwp Try.prog F (zeroValue 46) h K = K Go.Value.nilFunc h := dwp_zero_of Try.zeroValue46
theorem rz46 {F : Fr} {S : Hp} : rval Try.prog F (zeroValue 46) S = some (Go.Value.nilFunc) := rval_zero Try.zeroValue46
theorem un47 {F : Fr} {h : Hp} {K : TypeDesc → Hp → Prop} : dwp Try.prog F (underlying 47) h K = K (Go.TypeDesc.int Go.IntKind.i64) h := by rw [dwp_underlying, Try.underlying47]; rfl
theorem ru47 {F : Fr} {S : Hp} : rval Try.prog F (underlying 47) S = some (Go.TypeDesc.int Go.IntKind.i64) := rval_un Try.underlying47
theorem sz47 {F : Fr} {h : Hp} {K : Nat → Hp → Prop} : dwp Try.prog F (sizeOf 47) h K = K 1 h := dwp_size_of Try.sizeOf47
theorem rs47 {F : Fr} {S : Hp} : rval Try.prog F (sizeOf 47) S = some 1 := rval_size Try.sizeOf47
theorem ag47 {F : Fr} {h : Hp} {K : Bool → Hp → Prop} : dwp Try.prog F (isAgg 47) h K = K false h := dwp_agg_of Try.isAgg47
theorem ra47 {F : Fr} {S : Hp} : rval Try.prog F (isAgg 47) S = some false := rval_agg Try.isAgg47
theorem ze47 {F : Fr} {h : Hp} {K : Value → Hp → Prop} : dwp Try.prog F (zeroValue 47) h K = K (Go.Value.int Go.IntKind.i64 0) h := dwp_zero_of Try.zeroValue47
theorem rz47 {F : Fr} {S : Hp} : rval Try.prog F (zeroValue 47) S = some (Go.Value.int Go.IntKind.i64 0) := rval_zero Try.zeroValue47
theorem un48 {F : Fr} {h : Hp} {K : TypeDesc → Hp → Prop} : dwp Try.prog F (underlying 48) h K = K (Go.TypeDesc.struct #[{ name := "Kind", type := 47, offset := 0, embedded := false, tag := "", pkgPath := "", byteOffset := 0 }, { name := "Torque", type := 30, offset := 1, embedded := false, tag := "", pkgPath := "", byteOffset := 8 }, { name := "Angle", type := 30, offset := 3, embedded := false, tag := "", pkgPath := "", byteOffset := 24 }, { name := "Stretch", type := 30, offset := 5, embedded := false, tag := "", pkgPath := "", byteOffset := 40 }]) h := by rw [dwp_underlying, Try.underlying48]; rfl
theorem ru48 {F : Fr} {S : Hp} : rval Try.prog F (underlying 48) S = some (Go.TypeDesc.struct #[{ name := "Kind", type := 47, offset := 0, embedded := false, tag := "", pkgPath := "", byteOffset := 0 }, { name := "Torque", type := 30, offset := 1, embedded := false, tag := "", pkgPath := "", byteOffset := 8 }, { name := "Angle", type := 30, offset := 3, embedded := false, tag := "", pkgPath := "", byteOffset := 24 }, { name := "Stretch", type := 30, offset := 5, embedded := false, tag := "", pkgPath := "", byteOffset := 40 }]) := rval_un Try.underlying48
theorem sz48 {F : Fr} {h : Hp} {K : Nat → Hp → Prop} : dwp Try.prog F (sizeOf 48) h K = K 7 h := dwp_size_of Try.sizeOf48
theorem rs48 {F : Fr} {S : Hp} : rval Try.prog F (sizeOf 48) S = some 7 := rval_size Try.sizeOf48
theorem ag48 {F : Fr} {h : Hp} {K : Bool → Hp → Prop} : dwp Try.prog F (isAgg 48) h K = K true h := dwp_agg_of Try.isAgg48
theorem ra48 {F : Fr} {S : Hp} : rval Try.prog F (isAgg 48) S = some true := rval_agg Try.isAgg48
theorem ze48 {F : Fr} {h : Hp} {K : Value → Hp → Prop} : dwp Try.prog F (zeroValue 48) h K = K (Go.Value.agg #[Go.Value.int Go.IntKind.i64 0, Go.Value.int Go.IntKind.i64 0, Go.Value.int Go.IntKind.i64 0, Go.Value.int Go.IntKind.i64 0, Go.Value.int Go.IntKind.i64 0, Go.Value.int Go.IntKind.i64 0, Go.Value.int Go.IntKind.i64 0]) h := dwp_zero_of Try.zeroValue48
theorem rz48 {F : Fr} {S : Hp} : rval Try.prog F (zeroValue 48) S = some (Go.Value.agg #[Go.Value.int Go.IntKind.i64 0, Go.Value.int Go.IntKind.i64 0, Go.Value.int Go.IntKind.i64 0, Go.Value.int Go.IntKind.i64 0, Go.Value.int Go.IntKind.i64 0, Go.Value.int Go.IntKind.i64 0, Go.Value.int Go.IntKind.i64 0]) := rval_zero Try.zeroValue48
theorem un49 {F : Fr} {h : Hp} {K : TypeDesc → Hp → Prop} : dwp Try.prog F (underlying 49) h K = K (Go.TypeDesc.struct #[{ name := "Kind", type := 47, offset := 0, embedded := false, tag := "", pkgPath := "", byteOffset := 0 }, { name := "Torque", type := 30, offset := 1, embedded := false, tag := "", pkgPath := "", byteOffset := 8 }, { name := "Angle", type := 30, offset := 3, embedded := false, tag := "", pkgPath := "", byteOffset := 24 }, { name := "Stretch", type := 30, offset := 5, embedded := false, tag := "", pkgPath := "", byteOffset := 40 }]) h := by rw [dwp_underlying, Try.underlying49]; rfl
theorem ru49 {F : Fr} {S : Hp} : rval Try.prog F (underlying 49) S = some (Go.TypeDesc.struct #[{ name := "Kind", type := 47, offset := 0, embedded := false, tag := "", pkgPath := "", byteOffset := 0 }, { name := "Torque", type := 30, offset := 1, embedded := false, tag := "", pkgPath := "", byteOffset := 8 }, { name := "Angle", type := 30, offset := 3, embedded := false, tag := "", pkgPath := "", byteOffset := 24 }, { name := "Stretch", type := 30, offset := 5, embedded := false, tag := "", pkgPath := "", byteOffset := 40 }]) := rval_un Try.underlying49
theorem sz49 {F : Fr} {h : Hp} {K : Nat → Hp → Prop} : dwp Try.prog F (sizeOf 49) h K = K 7 h := dwp_size_of Try.sizeOf49
theorem rs49 {F : Fr} {S : Hp} : rval Try.prog F (sizeOf 49) S = some 7 := rval_size Try.sizeOf49
theorem ag49 {F : Fr} {h : Hp} {K : Bool → Hp → Prop} : dwp Try.prog F (isAgg 49) h K = K true h := dwp_agg_of Try.isAgg49
theorem ra49 {F : Fr} {S : Hp} : rval Try.prog F (isAgg 49) S = some true := rval_agg Try.isAgg49
theorem ze49 {F : Fr} {h : Hp} {K : Value → Hp → Prop} : dwp Try.prog F (zeroValue 49) h K = K (Go.Value.agg #[Go.Value.int Go.IntKind.i64 0, Go.Value.int Go.IntKind.i64 0, Go.Value.int Go.IntKind.i64 0, Go.Value.int Go.IntKind.i64 0, Go.Value.int Go.IntKind.i64 0, Go.Value.int Go.IntKind.i64 0, Go.Value.int Go.IntKind.i64 0]) h := dwp_zero_of Try.zeroValue49
theorem rz49 {F : Fr} {S : Hp} : rval Try.prog F (zeroValue 49) S = some (Go.Value.agg #[Go.Value.int Go.IntKind.i64 0, Go.Value.int Go.IntKind.i64 0, Go.Value.int Go.IntKind.i64 0, Go.Value.int Go.IntKind.i64 0, Go.Value.int Go.IntKind.i64 0, Go.Value.int Go.IntKind.i64 0, Go.Value.int Go.IntKind.i64 0]) := rval_zero Try.zeroValue49
theorem un50 {F : Fr} {h : Hp} {K : TypeDesc → Hp → Prop} : dwp Try.prog F (underlying 50) h K = K (Go.TypeDesc.func #[26, 28, 22] #[4] false) h := by rw [dwp_underlying, Try.underlying50]; rfl
theorem ru50 {F : Fr} {S : Hp} : rval Try.prog F (underlying 50) S = some (Go.TypeDesc.func #[26, 28, 22] #[4] false) := rval_un Try.underlying50
theorem sz50 {F : Fr} {h : Hp} {K : Nat → Hp → Prop} : dwp Try.prog F (sizeOf 50) h K = K 1 h := dwp_size_of Try.sizeOf50
theorem rs50 {F : Fr} {S : Hp} : rval Try.prog F (sizeOf 50) S = some 1 := rval_size Try.sizeOf50
theorem ag50 {F : Fr} {h : Hp} {K : Bool → Hp → Prop} : dwp Try.prog F (isAgg 50) h K = K false h := dwp_agg_of Try.isAgg50
theorem ra50 {F : Fr} {S : Hp} : rval Try.prog F (isAgg 50) S = some false := rval_agg Try.isAgg50
theorem ze50 {F : Fr} {h : Hp} {K : Value → Hp → Prop} : dwp Try.prog F (zeroValue 50) h K = K Go.Value.nilFunc h := dwp_zero_of Try.zeroValue50
theorem rz50 {F : Fr} {S : Hp} : rval Try.prog F (zeroValue 50) S = some (Go.Value.nilFunc) := rval_zero Try.zeroValue50
theorem un51 {F : Fr} {h : Hp} {K : TypeDesc → Hp → Prop} : dwp Try.prog F (underlying 51) h K = K (Go.TypeDesc.int Go.IntKind.i8) h := by rw [dwp_underlying, Try.underlying51]; rfl
theorem ru51 {F : Fr} {S : Hp} : rval Try.prog F (underlying 51) S = some (Go.TypeDesc.int Go.IntKind.i8) := rval_un Try.underlying51
theorem sz51 {F : Fr} {h : Hp} {K : Nat → Hp → Prop} : dwp Try.prog F (sizeOf 51) h K = K 1 h := dwp_size_of Try.sizeOf51
theorem rs51 {F : Fr} {S : Hp} : rval Try.prog F (sizeOf 51) S = some 1 := rval_size Try.sizeOf51
theorem ag51 {F : Fr} {h : Hp} {K : Bool → Hp → Prop} : dwp Try.prog F (isAgg 51) h K = K false h := dwp_agg_of Try.isAgg51
theorem ra51 {F : Fr} {S : Hp} : rval Try.prog F (isAgg 51) S = some false := rval_agg Try.isAgg51
theorem ze51 {F : Fr} {h : Hp} {K : Value → Hp → Prop} : dwp Try.prog F (zeroValue 51) h K = K (Go.Value.int Go.IntKind.i8 0) h := dwp_zero_of Try.zeroValue51
theorem rz51 {F : Fr} {S : Hp} : rval Try.prog F (zeroValue 51) S = some (Go.Value.int Go.IntKind.i8 0) := rval_zero Try.zeroValue51
theorem un52 {F : Fr} {h : Hp} {K : TypeDesc → Hp → Prop} : dwp Try.prog F (underlying 52) h K = K (Go.TypeDesc.array 2 51) h := by rw [dwp_underlying, Try.underlying52]; rfl
theorem ru52 {F : Fr} {S : Hp} : rval Try.prog F (underlying 52) S = some (Go.TypeDesc.array 2 51) := rval_un Try.underlying52
theorem ix52 {F : Fr} {h : Hp} {a : Addr} {k : IntKind} {i : Int} {K : Value → Hp → Prop} (h1 : 0 ≤ i) (h2 : i < ((2 : Nat) : Int)) : dwp Try.prog F (Instr.indexAt 52 (.pointer (some a)) (.int k i)) h K = K (.pointer (some (a.add (i.toNat * 1)))) h := dwp_ixA Try.underlying52 Try.sizeOf51 h1 h2
theorem rx52 {F : Fr} {S : Hp} {a : Addr} {k : IntKind} {i : Int} (h1 : 0 ≤ i) (h2 : i < ((2 : Nat) : Int)) : rval Try.prog F (Instr.indexAt 52 (.pointer (some a)) (.int k i)) S = some (.pointer (some (a.add (i.toNat * 1)))) := rval_ixA Try.underlying52 Try.sizeOf51 h1 h2
theorem sz52 {F : Fr} {h : Hp} {K : Nat → Hp → Prop} : dwp Try.prog F (sizeOf 52) h K = K 2 h := dwp_size_of Try.sizeOf52
theorem rs52 {F : Fr} {S : Hp} : rval Try.prog F (sizeOf 52) S = some 2 := rval_size Try.sizeOf52
theorem ag52 {F : Fr} {h : Hp} {K : Bool → Hp → Prop} : dwp Try.prog F (isAgg 52) h K = K true h := dwp_agg_of Try.isAgg52
theorem ra52 {F : Fr} {S : Hp} : rval Try.prog F (isAgg 52) S = some true := rval_agg Try.isAgg52
theorem ze52 {F : Fr} {h : Hp} {K : Value → Hp → Prop} : dwp Try.prog F (zeroValue 52) h K = K (Go.Value.agg #[Go.Value.int Go.IntKind.i8 0, Go.Value.int Go.IntKind.i8 0]) h := dwp_zero_of Try.zeroValue52
theorem rz52 {F : Fr} {S : Hp} : rval Try.prog F (zeroValue 52) S = some (Go.Value.agg #[Go.Value.int Go.IntKind.i8 0, Go.Value.int Go.IntKind.i8 0]) := rval_zero Try.zeroValue52
theorem un53 {F : Fr} {h : Hp} {K : TypeDesc → Hp → Prop} : dwp Try.prog F (underlying 53) h K = K (Go.TypeDesc.struct #[{ name := "Pitch", type := 27, offset := 0, embedded := false, tag := "", pkgPath := "", byteOffset := 0 }, { name := "Left", type := 27, offset := 1, embedded := false, tag := "", pkgPath := "", byteOffset := 2 }, { name := "Right", type := 27, offset := 2, embedded := false, tag := "", pkgPath := "", byteOffset := 4 }, { name := "Depth", type := 52, offset := 3, embedded := false, tag := "", pkgPath := "", byteOffset := 6 }]) h := by rw [dwp_underlying, Try.underlying53]; rfl
theorem ru53 {F : Fr} {S : Hp} : rval Try.prog F (underlying 53) S = some (Go.TypeDesc.struct #[{ name := "Pitch", type := 27, offset := 0, embedded := false, tag := "", pkgPath := "", byteOffset := 0 }, { name := "Left", type := 27, offset := 1, embedded := false, tag := "", pkgPath := "", byteOffset := 2 }, { name := "Right", type := 27, offset := 2, embedded := false, tag := "", pkgPath := "", byteOffset := 4 }, { name := "Depth", type := 52, offset := 3, embedded := false, tag := "", pkgPath := "", byteOffset := 6 }]) := rval_un Try.underlying53
theorem sz53 {F : Fr} {h : Hp} {K : Nat → Hp → Prop} : dwp Try.prog F (sizeOf 53) h K = K 5 h := dwp_size_of Try.sizeOf53
theorem rs53 {F : Fr} {S : Hp} : rval Try.prog F (sizeOf 53) S = some 5 := rval_size Try.sizeOf53
theorem ag53 {F : Fr} {h : Hp} {K : Bool → Hp → Prop} : dwp Try.prog F (isAgg 53) h K = K true h := dwp_agg_of Try.isAgg53
theorem ra53 {F : Fr} {S : Hp} : rval Try.prog F (isAgg 53) S = some true := rval_agg Try.isAgg53
theorem ze53 {F : Fr} {h : Hp} {K : Value → Hp → Prop} : dwp Try.prog F (zeroValue 53) h K = K (Go.Value.agg #[Go.Value.int Go.IntKind.u16 0, Go.Value.int Go.IntKind.u16 0, Go.Value.int Go.IntKind.u16 0, Go.Value.int Go.IntKind.i8 0, Go.Value.int Go.IntKind.i8 0]) h := dwp_zero_of Try.zeroValue53
theorem rz53 {F : Fr} {S : Hp} : rval Try.prog F (zeroValue 53) S = some (Go.Value.agg #[Go.Value.int Go.IntKind.u16 0, Go.Value.int Go.IntKind.u16 0, Go.Value.int Go.IntKind.u16 0, Go.Value.int Go.IntKind.i8 0, Go.Value.int Go.IntKind.i8 0]) := rval_zero Try.zeroValue53
theorem un54 {F : Fr} {h : Hp} {K : TypeDesc → Hp → Prop} : dwp Try.prog F (underlying 54) h K = K (Go.TypeDesc.struct #[{ name := "Pitch", type := 27, offset := 0, embedded := false, tag := "", pkgPath := "", byteOffset := 0 }, { name := "Left", type := 27, offset := 1, embedded := false, tag := "", pkgPath := "", byteOffset := 2 }, { name := "Right", type := 27, offset := 2, embedded := false, tag := "", pkgPath := "", byteOffset := 4 }, { name := "Depth", type := 52, offset := 3, embedded := false, tag := "", pkgPath := "", byteOffset := 6 }]) h := by rw [dwp_underlying, Try.underlying54]; rfl
theorem ru54 {F : Fr} {S : Hp} : rval Try.prog F (underlying 54) S = some (Go.TypeDesc.struct #[{ name := "Pitch", type := 27, offset := 0, embedded := false, tag := "", pkgPath := "", byteOffset := 0 }, { name := "Left", type := 27, offset := 1, embedded := false, tag := "", pkgPath := "", byteOffset := 2 }, { name := "Right", type := 27, offset := 2, embedded := false, tag := "", pkgPath := "", byteOffset := 4 }, { name := "Depth", type := 52, offset := 3, embedded := false, tag := "", pkgPath := "", byteOffset := 6 }]) := rval_un Try.underlying54
theorem sz54 {F : Fr} {h : Hp} {K : Nat → Hp → Prop} : dwp Try.prog F (sizeOf 54) h K = K 5 h := dwp_size_of Try.sizeOf54
theorem rs54 {F : Fr} {S : Hp} : rval Try.prog F (sizeOf 54) S = some 5 := rval_size Try.sizeOf54
theorem ag54 {F : Fr} {h : Hp} {K : Bool → Hp → Prop} : dwp Try.prog F (isAgg 54) h K = K true h := dwp_agg_of Try.isAgg54
theorem ra54 {F : Fr} {S : Hp} : rval Try.prog F (isAgg 54) S = some true := rval_agg Try.isAgg54
theorem ze54 {F : Fr} {h : Hp} {K : Value → Hp → Prop} : dwp Try.prog F (zeroValue 54) h K = K (Go.Value.agg #[Go.Value.int Go.IntKind.u16 0, Go.Value.int Go.IntKind.u16 0, Go.Value.int Go.IntKind.u16 0, Go.Value.int Go.IntKind.i8 0, Go.Value.int Go.IntKind.i8 0]) h := dwp_zero_of Try.zeroValue54
theorem rz54 {F : Fr} {S : Hp} : rval Try.prog F (zeroValue 54) S = some (Go.Value.agg #[Go.Value.int Go.IntKind.u16 0, Go.Value.int Go.IntKind.u16 0, Go.Value.int Go.IntKind.u16 0, Go.Value.int Go.IntKind.i8 0, Go.Value.int Go.IntKind.i8 0]) := rval_zero Try.zeroValue54
theorem un55 {F : Fr} {h : Hp} {K : TypeDesc → Hp → Prop} : dwp Try.prog F (underlying 55) h K = K (Go.TypeDesc.struct #[{ name := "Pitch", type := 3, offset := 0, embedded := false, tag := "", pkgPath := "", byteOffset := 0 }, { name := "Left", type := 3, offset := 1, embedded := false, tag := "", pkgPath := "", byteOffset := 8 }, { name := "Right", type := 3, offset := 2, embedded := false, tag := "", pkgPath := "", byteOffset := 16 }, { name := "Above", type := 3, offset := 3, embedded := false, tag := "", pkgPath := "", byteOffset := 24 }, { name := "Below", type := 3, offset := 4, embedded := false, tag := "", pkgPath := "", byteOffset := 32 }, { name := "Starts", type := 3, offset := 5, embedded := false, tag := "", pkgPath := "", byteOffset := 40 }, { name := "LeftHand", type := 4, offset := 6, embedded := false, tag := "", pkgPath := "", byteOffset := 48 }, { name := "Taper", type := 3, offset := 7, embedded := false, tag := "", pkgPath := "", byteOffset := 56 }]) h := by rw [dwp_underlying, Try.underlying55]; rfl
theorem ru55 {F : Fr} {S : Hp} : rval Try.prog F (underlying 55) S = some (Go.TypeDesc.struct #[{ name := "Pitch", type := 3, offset := 0, embedded := false, tag := "", pkgPath := "", byteOffset := 0 }, { name := "Left", type := 3, offset := 1, embedded := false, tag := "", pkgPath := "", byteOffset := 8 }, { name := "Right", type := 3, offset := 2, embedded := false, tag := "", pkgPath := "", byteOffset := 16 }, { name := "Above", type := 3, offset := 3, embedded := false, tag := "", pkgPath := "", byteOffset := 24 }, { name := "Below", type := 3, offset := 4, embedded := false, tag := "", pkgPath := "", byteOffset := 32 }, { name := "Starts", type := 3, offset := 5, embedded := false, tag := "", pkgPath := "", byteOffset := 40 }, { name := "LeftHand", type := 4, offset := 6, embedded := false, tag := "", pkgPath := "", byteOffset := 48 }, { name := "Taper", type := 3, offset := 7, embedded := false, tag := "", pkgPath := "", byteOffset := 56 }]) := rval_un Try.underlying55
theorem sz55 {F : Fr} {h : Hp} {K : Nat → Hp → Prop} : dwp Try.prog F (sizeOf 55) h K = K 8 h := dwp_size_of Try.sizeOf55
theorem rs55 {F : Fr} {S : Hp} : rval Try.prog F (sizeOf 55) S = some 8 := rval_size Try.sizeOf55
theorem ag55 {F : Fr} {h : Hp} {K : Bool → Hp → Prop} : dwp Try.prog F (isAgg 55) h K = K true h := dwp_agg_of Try.isAgg55
theorem ra55 {F : Fr} {S : Hp} : rval Try.prog F (isAgg 55) S = some true := rval_agg Try.isAgg55
theorem ze55 {F : Fr} {h : Hp} {K : Value → Hp → Prop} : dwp Try.prog F (zeroValue 55) h K = K (Go.Value.agg #[Go.Value.int Go.IntKind.i64 0, Go.Value.int Go.IntKind.i64 0, Go.Value.int Go.IntKind.i64 0, Go.Value.int Go.IntKind.i64 0, Go.Value.int Go.IntKind.i64 0, Go.Value.int Go.IntKind.i64 0, Go.Value.bool false, Go.Value.int Go.IntKind.i64 0]) h := dwp_zero_of Try.zeroValue55
theorem rz55 {F : Fr} {S : Hp} : rval Try.prog F (zeroValue 55) S = some (Go.Value.agg #[Go.Value.int Go.IntKind.i64 0, Go.Value.int Go.IntKind.i64 0, Go.Value.int Go.IntKind.i64 0, Go.Value.int Go.IntKind.i64 0, Go.Value.int Go.IntKind.i64 0, Go.Value.int Go.IntKind.i64 0, Go.Value.bool false, Go.Value.int Go.IntKind.i64 0]) := rval_zero Try.zeroValue55
theorem un56 {F : Fr} {h : Hp} {K : TypeDesc → Hp → Prop} : dwp Try.prog F (underlying 56) h K = K (Go.TypeDesc.struct #[{ name := "Pitch", type := 3, offset := 0, embedded := false, tag := "", pkgPath := "", byteOffset := 0 }, { name := "Left", type := 3, offset := 1, embedded := false, tag := "", pkgPath := "", byteOffset := 8 }, { name := "Right", type := 3, offset := 2, embedded := false, tag := "", pkgPath := "", byteOffset := 16 }, { name := "Above", type := 3, offset := 3, embedded := false, tag := "", pkgPath := "", byteOffset := 24 }, { name := "Below", type := 3, offset := 4, embedded := false, tag := "", pkgPath := "", byteOffset := 32 }, { name := "Starts", type := 3, offset := 5, embedded := false, tag := "", pkgPath := "", byteOffset := 40 }, { name := "LeftHand", type := 4, offset := 6, embedded := false, tag := "", pkgPath := "", byteOffset := 48 }, { name := "Taper", type := 3, offset := 7, embedded := false, tag := "", pkgPath := "", byteOffset := 56 }]) h := by rw [dwp_underlying, Try.underlying56]; rfl
theorem ru56 {F : Fr} {S : Hp} : rval Try.prog F (underlying 56) S = some (Go.TypeDesc.struct #[{ name := "Pitch", type := 3, offset := 0, embedded := false, tag := "", pkgPath := "", byteOffset := 0 }, { name := "Left", type := 3, offset := 1, embedded := false, tag := "", pkgPath := "", byteOffset := 8 }, { name := "Right", type := 3, offset := 2, embedded := false, tag := "", pkgPath := "", byteOffset := 16 }, { name := "Above", type := 3, offset := 3, embedded := false, tag := "", pkgPath := "", byteOffset := 24 }, { name := "Below", type := 3, offset := 4, embedded := false, tag := "", pkgPath := "", byteOffset := 32 }, { name := "Starts", type := 3, offset := 5, embedded := false, tag := "", pkgPath := "", byteOffset := 40 }, { name := "LeftHand", type := 4, offset := 6, embedded := false, tag := "", pkgPath := "", byteOffset := 48 }, { name := "Taper", type := 3, offset := 7, embedded := false, tag := "", pkgPath := "", byteOffset := 56 }]) := rval_un Try.underlying56
theorem sz56 {F : Fr} {h : Hp} {K : Nat → Hp → Prop} : dwp Try.prog F (sizeOf 56) h K = K 8 h := dwp_size_of Try.sizeOf56
theorem rs56 {F : Fr} {S : Hp} : rval Try.prog F (sizeOf 56) S = some 8 := rval_size Try.sizeOf56
theorem ag56 {F : Fr} {h : Hp} {K : Bool → Hp → Prop} : dwp Try.prog F (isAgg 56) h K = K true h := dwp_agg_of Try.isAgg56
theorem ra56 {F : Fr} {S : Hp} : rval Try.prog F (isAgg 56) S = some true := rval_agg Try.isAgg56
theorem ze56 {F : Fr} {h : Hp} {K : Value → Hp → Prop} : dwp Try.prog F (zeroValue 56) h K = K (Go.Value.agg #[Go.Value.int Go.IntKind.i64 0, Go.Value.int Go.IntKind.i64 0, Go.Value.int Go.IntKind.i64 0, Go.Value.int Go.IntKind.i64 0, Go.Value.int Go.IntKind.i64 0, Go.Value.int Go.IntKind.i64 0, Go.Value.bool false, Go.Value.int Go.IntKind.i64 0]) h := dwp_zero_of Try.zeroValue56
theorem rz56 {F : Fr} {S : Hp} : rval Try.prog F (zeroValue 56) S = some (Go.Value.agg #[Go.Value.int Go.IntKind.i64 0, Go.Value.int Go.IntKind.i64 0, Go.Value.int Go.IntKind.i64 0, Go.Value.int Go.IntKind.i64 0, Go.Value.int Go.IntKind.i64 0, Go.Value.int Go.IntKind.i64 0, Go.Value.bool false, Go.Value.int Go.IntKind.i64 0]) := rval_zero Try.zeroValue56
theorem un57 {F : Fr} {h : Hp} {K : TypeDesc → Hp → Prop} : dwp Try.prog F (underlying 57) h K = K (Go.TypeDesc.func #[] #[56] false) h := by rw [dwp_underlying, Try.underlying57]; rfl
theorem ru57 {F : Fr} {S : Hp} : rval Try.prog F (underlying 57) S = some (Go.TypeDesc.func #[] #[56] false) := rval_un Try.underlying57
theorem sz57 {F : Fr} {h : Hp} {K : Nat → Hp → Prop} : dwp Try.prog F (sizeOf 57) h K = K 1 h := dwp_size_of Try.sizeOf57
theorem rs57 {F : Fr} {S : Hp} : rval Try.prog F (sizeOf 57) S = some 1 := rval_size Try.sizeOf57
theorem ag57 {F : Fr} {h : Hp} {K : Bool → Hp → Prop} : dwp Try.prog F (isAgg 57) h K = K false h := dwp_agg_of Try.isAgg57
theorem ra57 {F : Fr} {S : Hp} : rval Try.prog F (isAgg 57) S = some false := rval_agg Try.isAgg57
theorem ze57 {F : Fr} {h : Hp} {K : Value → Hp → Prop} : dwp Try.prog F (zeroValue 57) h K = K Go.Value.nilFunc h := dwp_zero_of Try.zeroValue57
theorem rz57 {F : Fr} {S : Hp} : rval Try.prog F (zeroValue 57) S = some (Go.Value.nilFunc) := rval_zero Try.zeroValue57
theorem un58 {F : Fr} {h : Hp} {K : TypeDesc → Hp → Prop} : dwp Try.prog F (underlying 58) h K = K (Go.TypeDesc.tuple #[39, 35]) h := by rw [dwp_underlying, Try.underlying58]; rfl
theorem ru58 {F : Fr} {S : Hp} : rval Try.prog F (underlying 58) S = some (Go.TypeDesc.tuple #[39, 35]) := rval_un Try.underlying58
theorem sz58 {F : Fr} {h : Hp} {K : Nat → Hp → Prop} : dwp Try.prog F (sizeOf 58) h K = K 1 h := dwp_size_of Try.sizeOf58
theorem rs58 {F : Fr} {S : Hp} : rval Try.prog F (sizeOf 58) S = some 1 := rval_size Try.sizeOf58
theorem ag58 {F : Fr} {h : Hp} {K : Bool → Hp → Prop} : dwp Try.prog F (isAgg 58) h K = K false h := dwp_agg_of Try.isAgg58
theorem ra58 {F : Fr} {S : Hp} : rval Try.prog F (isAgg 58) S = some false := rval_agg Try.isAgg58
theorem ze58 {F : Fr} {h : Hp} {K : Value → Hp → Prop} : dwp Try.prog F (zeroValue 58) h K = K (Go.Value.tuple #[Go.Value.agg #[Go.Value.int Go.IntKind.i64 0, Go.Value.int Go.IntKind.i64 0], Go.Value.int Go.IntKind.i64 0]) h := dwp_zero_of Try.zeroValue58
theorem rz58 {F : Fr} {S : Hp} : rval Try.prog F (zeroValue 58) S = some (Go.Value.tuple #[Go.Value.agg #[Go.Value.int Go.IntKind.i64 0, Go.Value.int Go.IntKind.i64 0], Go.Value.int Go.IntKind.i64 0]) := rval_zero Try.zeroValue58
theorem un59 {F : Fr} {h : Hp} {K : TypeDesc → Hp → Prop} : dwp Try.prog F (underlying 59) h K = K (Go.TypeDesc.func #[56, 3] #[39, 35] false) h := by rw [dwp_underlying, Try.underlying59]; rfl
theorem ru59 {F : Fr} {S : Hp} : rval Try.prog F (underlying 59) S = some (Go.TypeDesc.func #[56, 3] #[39, 35] false) := rval_un Try.underlying59
theorem sz59 {F : Fr} {h : Hp} {K : Nat → Hp → Prop} : dwp Try.prog F (sizeOf 59) h K = K 1 h := dwp_size_of Try.sizeOf59
theorem rs59 {F : Fr} {S : Hp} : rval Try.prog F (sizeOf 59) S = some 1 := rval_size Try.sizeOf59
theorem ag59 {F : Fr} {h : Hp} {K : Bool → Hp → Prop} : dwp Try.prog F (isAgg 59) h K = K false h := dwp_agg_of Try.isAgg59
theorem ra59 {F : Fr} {S : Hp} : rval Try.prog F (isAgg 59) S = some false := rval_agg Try.isAgg59
theorem ze59 {F : Fr} {h : Hp} {K : Value → Hp → Prop} : dwp Try.prog F (zeroValue 59) h K = K Go.Value.nilFunc h := dwp_zero_of Try.zeroValue59
theorem rz59 {F : Fr} {S : Hp} : rval Try.prog F (zeroValue 59) S = some (Go.Value.nilFunc) := rval_zero Try.zeroValue59
theorem un60 {F : Fr} {h : Hp} {K : TypeDesc → Hp → Prop} : dwp Try.prog F (underlying 60) h K = K (Go.TypeDesc.func #[26, 54, 27] #[4] false) h := by rw [dwp_underlying, Try.underlying60]; rfl
theorem ru60 {F : Fr} {S : Hp} : rval Try.prog F (underlying 60) S = some (Go.TypeDesc.func #[26, 54, 27] #[4] false) := rval_un Try.underlying60
theorem sz60 {F : Fr} {h : Hp} {K : Nat → Hp → Prop} : dwp Try.prog F (sizeOf 60) h K = K 1 h := dwp_size_of Try.sizeOf60
theorem rs60 {F : Fr} {S : Hp} : rval Try.prog F (sizeOf 60) S = some 1 := rval_size Try.sizeOf60
theorem ag60 {F : Fr} {h : Hp} {K : Bool → Hp → Prop} : dwp Try.prog F (isAgg 60) h K = K false h := dwp_agg_of Try.isAgg60
theorem ra60 {F : Fr} {S : Hp} : rval Try.prog F (isAgg 60) S = some false := rval_agg Try.isAgg60
theorem ze60 {F : Fr} {h : Hp} {K : Value → Hp → Prop} : dwp Try.prog F (zeroValue 60) h K = K Go.Value.nilFunc h := dwp_zero_of Try.zeroValue60
theorem rz60 {F : Fr} {S : Hp} : rval Try.prog F (zeroValue 60) S = some (Go.Value.nilFunc) := rval_zero Try.zeroValue60
theorem un61 {F : Fr} {h : Hp} {K : TypeDesc → Hp → Prop} : dwp Try.prog F (underlying 61) h K = K (Go.TypeDesc.func #[] #[30] false) h := by rw [dwp_underlying, Try.underlying61]; rfl
theorem ru61 {F : Fr} {S : Hp} : rval Try.prog F (underlying 61) S = some (Go.TypeDesc.func #[] #[30] false) := rval_un Try.underlying61
theorem sz61 {F : Fr} {h : Hp} {K : Nat → Hp → Prop} : dwp Try.prog F (sizeOf 61) h K = K 1 h := dwp_size_of Try.sizeOf61
theorem rs61 {F : Fr} {S : Hp} : rval Try.prog F (sizeOf 61) S = some 1 := rval_size Try.sizeOf61
theorem ag61 {F : Fr} {h : Hp} {K : Bool → Hp → Prop} : dwp Try.prog F (isAgg 61) h K = K false h := dwp_agg_of Try.isAgg61
theorem ra61 {F : Fr} {S : Hp} : rval Try.prog F (isAgg 61) S = some false := rval_agg Try.isAgg61
theorem ze61 {F : Fr} {h : Hp} {K : Value → Hp → Prop} : dwp Try.prog F (zeroValue 61) h K = K Go.Value.nilFunc h := dwp_zero_of Try.zeroValue61
theorem rz61 {F : Fr} {S : Hp} : rval Try.prog F (zeroValue 61) S = some (Go.Value.nilFunc) := rval_zero Try.zeroValue61
theorem un62 {F : Fr} {h : Hp} {K : TypeDesc → Hp → Prop} : dwp Try.prog F (underlying 62) h K = K (Go.TypeDesc.tuple #[3, 35]) h := by rw [dwp_underlying, Try.underlying62]; rfl
theorem ru62 {F : Fr} {S : Hp} : rval Try.prog F (underlying 62) S = some (Go.TypeDesc.tuple #[3, 35]) := rval_un Try.underlying62
theorem sz62 {F : Fr} {h : Hp} {K : Nat → Hp → Prop} : dwp Try.prog F (sizeOf 62) h K = K 1 h := dwp_size_of Try.sizeOf62
theorem rs62 {F : Fr} {S : Hp} : rval Try.prog F (sizeOf 62) S = some 1 := rval_size Try.sizeOf62
theorem ag62 {F : Fr} {h : Hp} {K : Bool → Hp → Prop} : dwp Try.prog F (isAgg 62) h K = K false h := dwp_agg_of Try.isAgg62
theorem ra62 {F : Fr} {S : Hp} : rval Try.prog F (isAgg 62) S = some false := rval_agg Try.isAgg62
theorem ze62 {F : Fr} {h : Hp} {K : Value → Hp → Prop} : dwp Try.prog F (zeroValue 62) h K = K (Go.Value.tuple #[Go.Value.int Go.IntKind.i64 0, Go.Value.int Go.IntKind.i64 0]) h := dwp_zero_of Try.zeroValue62
theorem rz62 {F : Fr} {S : Hp} : rval Try.prog F (zeroValue 62) S = some (Go.Value.tuple #[Go.Value.int Go.IntKind.i64 0, Go.Value.int Go.IntKind.i64 0]) := rval_zero Try.zeroValue62
theorem un63 {F : Fr} {h : Hp} {K : TypeDesc → Hp → Prop} : dwp Try.prog F (underlying 63) h K = K (Go.TypeDesc.func #[56, 56, 30] #[3, 35] false) h := by rw [dwp_underlying, Try.underlying63]; rfl
theorem ru63 {F : Fr} {S : Hp} : rval Try.prog F (underlying 63) S = some (Go.TypeDesc.func #[56, 56, 30] #[3, 35] false) := rval_un Try.underlying63
theorem sz63 {F : Fr} {h : Hp} {K : Nat → Hp → Prop} : dwp Try.prog F (sizeOf 63) h K = K 1 h := dwp_size_of Try.sizeOf63
theorem rs63 {F : Fr} {S : Hp} : rval Try.prog F (sizeOf 63) S = some 1 := rval_size Try.sizeOf63
theorem ag63 {F : Fr} {h : Hp} {K : Bool → Hp → Prop} : dwp Try.prog F (isAgg 63) h K = K false h := dwp_agg_of Try.isAgg63
theorem ra63 {F : Fr} {S : Hp} : rval Try.prog F (isAgg 63) S = some false := rval_agg Try.isAgg63
theorem ze63 {F : Fr} {h : Hp} {K : Value → Hp → Prop} : dwp Try.prog F (zeroValue 63) h K = K Go.Value.nilFunc h := dwp_zero_of Try.zeroValue63
theorem rz63 {F : Fr} {S : Hp} : rval Try.prog F (zeroValue 63) S = some (Go.Value.nilFunc) := rval_zero Try.zeroValue63
theorem un64 {F : Fr} {h : Hp} {K : TypeDesc → Hp → Prop} : dwp Try.prog F (underlying 64) h K = K (Go.TypeDesc.func #[56, 67, 30] #[3, 35] false) h := by rw [dwp_underlying, Try.underlying64]; rfl
theorem ru64 {F : Fr} {S : Hp} : rval Try.prog F (underlying 64) S = some (Go.TypeDesc.func #[56, 67, 30] #[3, 35] false) := rval_un Try.underlying64
theorem sz64 {F : Fr} {h : Hp} {K : Nat → Hp → Prop} : dwp Try.prog F (sizeOf 64) h K = K 1 h := dwp_size_of Try.sizeOf64
theorem rs64 {F : Fr} {S : Hp} : rval Try.prog F (sizeOf 64) S = some 1 := rval_size Try.sizeOf64
theorem ag64 {F : Fr} {h : Hp} {K : Bool → Hp → Prop} : dwp Try.prog F (isAgg 64) h K = K false h := dwp_agg_of Try.isAgg64
theorem ra64 {F : Fr} {S : Hp} : rval Try.prog F (isAgg 64) S = some false := rval_agg Try.isAgg64
theorem ze64 {F : Fr} {h : Hp} {K : Value → Hp → Prop} : dwp Try.prog F (zeroValue 64) h K = K Go.Value.nilFunc h := dwp_zero_of Try.zeroValue64
theorem rz64 {F : Fr} {S : Hp} : rval Try.prog F (zeroValue 64) S = some (Go.Value.nilFunc) := rval_zero Try.zeroValue64
theorem un65 {F : Fr} {h : Hp} {K : TypeDesc → Hp → Prop} : dwp Try.prog F (underlying 65) h K = K (Go.TypeDesc.slice 70) h := by rw [dwp_underlying, Try.underlying65]; rfl
theorem ru65 {F : Fr} {S : Hp} : rval Try.prog F (underlying 65) S = some (Go.TypeDesc.slice 70) := rval_un Try.underlying65
theorem ix65 {F : Fr} {h : Hp} {a : Addr} {n c : Nat} {k : IntKind} {i : Int} {K : Value → Hp → Prop} (h1 : 0 ≤ i) (h2 : i < (n : Int)) : dwp Try.prog F (Instr.indexAt 65 (.slice (some a) n c) (.int k i)) h K = K (.pointer (some (a.add (i.toNat * 2)))) h := dwp_ixS Try.underlying65 Try.sizeOf70 h1 h2
theorem rx65 {F : Fr} {S : Hp} {a : Addr} {n c : Nat} {k : IntKind} {i : Int} (h1 : 0 ≤ i) (h2 : i < (n : Int)) : rval Try.prog F (Instr.indexAt 65 (.slice (some a) n c) (.int k i)) S = some (.pointer (some (a.add (i.toNat * 2)))) := rval_ixS Try.underlying65 Try.sizeOf70 h1 h2
theorem sz65 {F : Fr} {h : Hp} {K : Nat → Hp → Prop} : dwp Try.prog F (sizeOf 65) h K = K 1 h := dwp_size_of Try.sizeOf65
theorem rs65 {F : Fr} {S : Hp} : rval Try.prog F (sizeOf 65) S = some 1 := rval_size Try.sizeOf65
theorem ag65 {F : Fr} {h : Hp} {K : Bool → Hp → Prop} : dwp Try.prog F (isAgg 65) h K = K false h := dwp_agg_of Try.isAgg65
theorem ra65 {F : Fr} {S : Hp} : rval Try.prog F (isAgg 65) S = some false := rval_agg Try.isAgg65
theorem ze65 {F : Fr} {h : Hp} {K : Value → Hp → Prop} : dwp Try.prog F (zeroValue 65) h K = K (Go.Value.slice none 0 0) h := dwp_zero_of Try.zeroValue65
theorem rz65 {F : Fr} {S : Hp} : rval Try.prog F (zeroValue 65) S = some (Go.Value.slice none 0 0) := rval_zero Try.zeroValue65
theorem un66 {F : Fr} {h : Hp} {K : TypeDesc → Hp → Prop} : dwp Try.prog F (underlying 66) h K = K (Go.TypeDesc.struct #[{ name := "Turns", type := 65, offset := 0, embedded := false, tag := "", pkgPath := "", byteOffset := 0 }, { name := "Left", type := 3, offset := 1, embedded := false, tag := "", pkgPath := "", byteOffset := 24 }, { name := "Right", type := 3, offset := 2, embedded := false, tag := "", pkgPath := "", byteOffset := 32 }]) h := by rw [dwp_underlying, Try.underlying66]; rfl
theorem ru66 {F : Fr} {S : Hp} : rval Try.prog F (underlying 66) S = some (Go.TypeDesc.struct #[{ name := "Turns", type := 65, offset := 0, embedded := false, tag := "", pkgPath := "", byteOffset := 0 }, { name := "Left", type := 3, offset := 1, embedded := false, tag := "", pkgPath := "", byteOffset := 24 }, { name := "Right", type := 3, offset := 2, embedded := false, tag := "", pkgPath := "", byteOffset := 32 }]) := rval_un Try.underlying66
theorem sz66 {F : Fr} {h : Hp} {K : Nat → Hp → Prop} : dwp Try.prog F (sizeOf 66) h K = K 3 h := dwp_size_of Try.sizeOf66
theorem rs66 {F : Fr} {S : Hp} : rval Try.prog F (sizeOf 66) S = some 3 := rval_size Try.sizeOf66
theorem ag66 {F : Fr} {h : Hp} {K : Bool → Hp → Prop} : dwp Try.prog F (isAgg 66) h K = K true h := dwp_agg_of Try.isAgg66
theorem ra66 {F : Fr} {S : Hp} : rval Try.prog F (isAgg 66) S = some true := rval_agg Try.isAgg66
theorem ze66 {F : Fr} {h : Hp} {K : Value → Hp → Prop} : dwp Try.prog F (zeroValue 66) h K = K (Go.Value.agg #[Go.Value.slice none 0 0, Go.Value.int Go.IntKind.i64 0, Go.Value.int Go.IntKind.i64 0]) h := dwp_zero_of Try.zeroValue66
theorem rz66 {F : Fr} {S : Hp} : rval Try.prog F (zeroValue 66) S = some (Go.Value.agg #[Go.Value.slice none 0 0, Go.Value.int Go.IntKind.i64 0, Go.Value.int Go.IntKind.i64 0]) := rval_zero Try.zeroValue66
theorem un67 {F : Fr} {h : Hp} {K : TypeDesc → Hp → Prop} : dwp Try.prog F (underlying 67) h K = K (Go.TypeDesc.struct #[{ name := "Turns", type := 65, offset := 0, embedded := false, tag := "", pkgPath := "", byteOffset := 0 }, { name := "Left", type := 3, offset := 1, embedded := false, tag := "", pkgPath := "", byteOffset := 24 }, { name := "Right", type := 3, offset := 2, embedded := false, tag := "", pkgPath := "", byteOffset := 32 }]) h := by rw [dwp_underlying, Try.underlying67]; rfl
theorem ru67 {F : Fr} {S : Hp} : rval Try.prog F (underlying 67) S = some (Go.TypeDesc.struct #[{ name := "Turns", type := 65, offset := 0, embedded := false, tag := "", pkgPath := "", byteOffset := 0 }, { name := "Left", type := 3, offset := 1, embedded := false, tag := "", pkgPath := "", byteOffset := 24 }, { name := "Right", type := 3, offset := 2, embedded := false, tag := "", pkgPath := "", byteOffset := 32 }]) := rval_un Try.underlying67
theorem sz67 {F : Fr} {h : Hp} {K : Nat → Hp → Prop} : dwp Try.prog F (sizeOf 67) h K = K 3 h := dwp_size_of Try.sizeOf67
theorem rs67 {F : Fr} {S : Hp} : rval Try.prog F (sizeOf 67) S = some 3 := rval_size Try.sizeOf67
theorem ag67 {F : Fr} {h : Hp} {K : Bool → Hp → Prop} : dwp Try.prog F (isAgg 67) h K = K true h := dwp_agg_of Try.isAgg67
theorem ra67 {F : Fr} {S : Hp} : rval Try.prog F (isAgg 67) S = some true := rval_agg Try.isAgg67
theorem ze67 {F : Fr} {h : Hp} {K : Value → Hp → Prop} : dwp Try.prog F (zeroValue 67) h K = K (Go.Value.agg #[Go.Value.slice none 0 0, Go.Value.int Go.IntKind.i64 0, Go.Value.int Go.IntKind.i64 0]) h := dwp_zero_of Try.zeroValue67
theorem rz67 {F : Fr} {S : Hp} : rval Try.prog F (zeroValue 67) S = some (Go.Value.agg #[Go.Value.slice none 0 0, Go.Value.int Go.IntKind.i64 0, Go.Value.int Go.IntKind.i64 0]) := rval_zero Try.zeroValue67
theorem un68 {F : Fr} {h : Hp} {K : TypeDesc → Hp → Prop} : dwp Try.prog F (underlying 68) h K = K (Go.TypeDesc.func #[56, 3, 3] #[67] false) h := by rw [dwp_underlying, Try.underlying68]; rfl
theorem ru68 {F : Fr} {S : Hp} : rval Try.prog F (underlying 68) S = some (Go.TypeDesc.func #[56, 3, 3] #[67] false) := rval_un Try.underlying68
theorem sz68 {F : Fr} {h : Hp} {K : Nat → Hp → Prop} : dwp Try.prog F (sizeOf 68) h K = K 1 h := dwp_size_of Try.sizeOf68
theorem rs68 {F : Fr} {S : Hp} : rval Try.prog F (sizeOf 68) S = some 1 := rval_size Try.sizeOf68
theorem ag68 {F : Fr} {h : Hp} {K : Bool → Hp → Prop} : dwp Try.prog F (isAgg 68) h K = K false h := dwp_agg_of Try.isAgg68
theorem ra68 {F : Fr} {S : Hp} : rval Try.prog F (isAgg 68) S = some false := rval_agg Try.isAgg68
theorem ze68 {F : Fr} {h : Hp} {K : Value → Hp → Prop} : dwp Try.prog F (zeroValue 68) h K = K Go.Value.nilFunc h := dwp_zero_of Try.zeroValue68
theorem rz68 {F : Fr} {S : Hp} : rval Try.prog F (zeroValue 68) S = some (Go.Value.nilFunc) := rval_zero Try.zeroValue68
theorem un69 {F : Fr} {h : Hp} {K : TypeDesc → Hp → Prop} : dwp Try.prog F (underlying 69) h K = K (Go.TypeDesc.struct #[{ name := "Left", type := 3, offset := 0, embedded := false, tag := "", pkgPath := "", byteOffset := 0 }, { name := "Right", type := 3, offset := 1, embedded := false, tag := "", pkgPath := "", byteOffset := 8 }]) h := by rw [dwp_underlying, Try.underlying69]; rfl
theorem ru69 {F : Fr} {S : Hp} : rval Try.prog F (underlying 69) S = some (Go.TypeDesc.struct #[{ name := "Left", type := 3, offset := 0, embedded := false, tag := "", pkgPath := "", byteOffset := 0 }, { name := "Right", type := 3, offset := 1, embedded := false, tag := "", pkgPath := "", byteOffset := 8 }]) := rval_un Try.underlying69
theorem sz69 {F : Fr} {h : Hp} {K : Nat → Hp → Prop} : dwp Try.prog F (sizeOf 69) h K = K 2 h := dwp_size_of Try.sizeOf69
theorem rs69 {F : Fr} {S : Hp} : rval Try.prog F (sizeOf 69) S = some 2 := rval_size Try.sizeOf69
theorem ag69 {F : Fr} {h : Hp} {K : Bool → Hp → Prop} : dwp Try.prog F (isAgg 69) h K = K true h := dwp_agg_of Try.isAgg69
theorem ra69 {F : Fr} {S : Hp} : rval Try.prog F (isAgg 69) S = some true := rval_agg Try.isAgg69
theorem ze69 {F : Fr} {h : Hp} {K : Value → Hp → Prop} : dwp Try.prog F (zeroValue 69) h K = K (Go.Value.agg #[Go.Value.int Go.IntKind.i64 0, Go.Value.int Go.IntKind.i64 0]) h := dwp_zero_of Try.zeroValue69
theorem rz69 {F : Fr} {S : Hp} : rval Try.prog F (zeroValue 69) S = some (Go.Value.agg #[Go.Value.int Go.IntKind.i64 0, Go.Value.int Go.IntKind.i64 0]) := rval_zero Try.zeroValue69
theorem un70 {F : Fr} {h : Hp} {K : TypeDesc → Hp → Prop} : dwp Try.prog F (underlying 70) h K = K (Go.TypeDesc.struct #[{ name := "Left", type := 3, offset := 0, embedded := false, tag := "", pkgPath := "", byteOffset := 0 }, { name := "Right", type := 3, offset := 1, embedded := false, tag := "", pkgPath := "", byteOffset := 8 }]) h := by rw [dwp_underlying, Try.underlying70]; rfl
theorem ru70 {F : Fr} {S : Hp} : rval Try.prog F (underlying 70) S = some (Go.TypeDesc.struct #[{ name := "Left", type := 3, offset := 0, embedded := false, tag := "", pkgPath := "", byteOffset := 0 }, { name := "Right", type := 3, offset := 1, embedded := false, tag := "", pkgPath := "", byteOffset := 8 }]) := rval_un Try.underlying70
theorem sz70 {F : Fr} {h : Hp} {K : Nat → Hp → Prop} : dwp Try.prog F (sizeOf 70) h K = K 2 h := dwp_size_of Try.sizeOf70
theorem rs70 {F : Fr} {S : Hp} : rval Try.prog F (sizeOf 70) S = some 2 := rval_size Try.sizeOf70
theorem ag70 {F : Fr} {h : Hp} {K : Bool → Hp → Prop} : dwp Try.prog F (isAgg 70) h K = K true h := dwp_agg_of Try.isAgg70
theorem ra70 {F : Fr} {S : Hp} : rval Try.prog F (isAgg 70) S = some true := rval_agg Try.isAgg70
theorem ze70 {F : Fr} {h : Hp} {K : Value → Hp → Prop} : dwp Try.prog F (zeroValue 70) h K = K (Go.Value.agg #[Go.Value.int Go.IntKind.i64 0, Go.Value.int Go.IntKind.i64 0]) h := dwp_zero_of Try.zeroValue70
theorem rz70 {F : Fr} {S : Hp} : rval Try.prog F (zeroValue 70) S = some (Go.Value.agg #[Go.Value.int Go.IntKind.i64 0, Go.Value.int Go.IntKind.i64 0]) := rval_zero Try.zeroValue70
theorem un71 {F : Fr} {h : Hp} {K : TypeDesc → Hp → Prop} : dwp Try.prog F (underlying 71) h K = K (Go.TypeDesc.func #[67, 67, 3, 3, 3, 30] #[30, 35] false) h := by rw [dwp_underlying, Try.underlying71]; rfl
theorem ru71 {F : Fr} {S : Hp} : rval Try.prog F (underlying 71) S = some (Go.TypeDesc.func #[67, 67, 3, 3, 3, 30] #[30, 35] false) := rval_un Try.underlying71
theorem sz71 {F : Fr} {h : Hp} {K : Nat → Hp → Prop} : dwp Try.prog F (sizeOf 71) h K = K 1 h := dwp_size_of Try.sizeOf71
theorem rs71 {F : Fr} {S : Hp} : rval Try.prog F (sizeOf 71) S = some 1 := rval_size Try.sizeOf71
theorem ag71 {F : Fr} {h : Hp} {K : Bool → Hp → Prop} : dwp Try.prog F (isAgg 71) h K = K false h := dwp_agg_of Try.isAgg71
theorem ra71 {F : Fr} {S : Hp} : rval Try.prog F (isAgg 71) S = some false := rval_agg Try.isAgg71
theorem ze71 {F : Fr} {h : Hp} {K : Value → Hp → Prop} : dwp Try.prog F (zeroValue 71) h K = K Go.Value.nilFunc h := dwp_zero_of Try.zeroValue71
theorem rz71 {F : Fr} {S : Hp} : rval Try.prog F (zeroValue 71) S = some (Go.Value.nilFunc) := rval_zero Try.zeroValue71
theorem un72 {F : Fr} {h : Hp} {K : TypeDesc → Hp → Prop} : dwp Try.prog F (underlying 72) h K = K (Go.TypeDesc.func #[54, 28, 5] #[4] false) h := by rw [dwp_underlying, Try.underlying72]; rfl
theorem ru72 {F : Fr} {S : Hp} : rval Try.prog F (underlying 72) S = some (Go.TypeDesc.func #[54, 28, 5] #[4] false) := rval_un Try.underlying72
theorem sz72 {F : Fr} {h : Hp} {K : Nat → Hp → Prop} : dwp Try.prog F (sizeOf 72) h K = K 1 h := dwp_size_of Try.sizeOf72
theorem rs72 {F : Fr} {S : Hp} : rval Try.prog F (sizeOf 72) S = some 1 := rval_size Try.sizeOf72
theorem ag72 {F : Fr} {h : Hp} {K : Bool → Hp → Prop} : dwp Try.prog F (isAgg 72) h K = K false h := dwp_agg_of Try.isAgg72
theorem ra72 {F : Fr} {S : Hp} : rval Try.prog F (isAgg 72) S = some false := rval_agg Try.isAgg72
theorem ze72 {F : Fr} {h : Hp} {K : Value → Hp → Prop} : dwp Try.prog F (zeroValue 72) h K = K Go.Value.nilFunc h := dwp_zero_of Try.zeroValue72
theorem rz72 {F : Fr} {S : Hp} : rval Try.prog F (zeroValue 72) S = some (Go.Value.nilFunc) := rval_zero Try.zeroValue72
theorem un73 {F : Fr} {h : Hp} {K : TypeDesc → Hp → Prop} : dwp Try.prog F (underlying 73) h K = K (Go.TypeDesc.tuple #[56, 56, 3, 3]) h := by rw [dwp_underlying, Try.underlying73]; rfl
theorem ru73 {F : Fr} {S : Hp} : rval Try.prog F (underlying 73) S = some (Go.TypeDesc.tuple #[56, 56, 3, 3]) := rval_un Try.underlying73
theorem sz73 {F : Fr} {h : Hp} {K : Nat → Hp → Prop} : dwp Try.prog F (sizeOf 73) h K = K 1 h := dwp_size_of Try.sizeOf73
theorem rs73 {F : Fr} {S : Hp} : rval Try.prog F (sizeOf 73) S = some 1 := rval_size Try.sizeOf73
theorem ag73 {F : Fr} {h : Hp} {K : Bool → Hp → Prop} : dwp Try.prog F (isAgg 73) h K = K false h := dwp_agg_of Try.isAgg73
theorem ra73 {F : Fr} {S : Hp} : rval Try.prog F (isAgg 73) S = some false := rval_agg Try.isAgg73
theorem ze73 {F : Fr} {h : Hp} {K : Value → Hp → Prop} : dwp Try.prog F (zeroValue 73) h K = K (Go.Value.tuple #[Go.Value.agg #[Go.Value.int Go.IntKind.i64 0, Go.Value.int Go.IntKind.i64 0, Go.Value.int Go.IntKind.i64 0, Go.Value.int Go.IntKind.i64 0, Go.Value.int Go.IntKind.i64 0, Go.Value.int Go.IntKind.i64 0, Go.Value.bool false, Go.Value.int Go.IntKind.i64 0], Go.Value.agg #[Go.Value.int Go.IntKind.i64 0, Go.Value.int Go.IntKind.i64 0, Go.Value.int Go.IntKind.i64 0, Go.Value.int Go.IntKind.i64 0, Go.Value.int Go.IntKind.i64 0, Go.Value.int Go.IntKind.i64 0, Go.Value.bool false, Go.Value.int Go.IntKind.i64 0], Go.Value.int Go.IntKind.i64 0, Go.Value.int Go.IntKind.i64 0]) h := dwp_zero_of Try.zeroValue73
theorem rz73 {F : Fr} {S : Hp} : rval Try.prog F (zeroValue 73) S = some (Go.Value.tuple #[Go.Value.agg #[Go.Value.int Go.IntKind.i64 0, Go.Value.int Go.IntKind.i64 0, Go.Value.int Go.IntKind.i64 0, Go.Value.int Go.IntKind.i64 0, Go.Value.int Go.IntKind.i64 0, Go.Value.int Go.IntKind.i64 0, Go.Value.bool false, Go.Value.int Go.IntKind.i64 0], Go.Value.agg #[Go.Value.int Go.IntKind.i64 0, Go.Value.int Go.IntKind.i64 0, Go.Value.int Go.IntKind.i64 0, Go.Value.int Go.IntKind.i64 0, Go.Value.int Go.IntKind.i64 0, Go.Value.int Go.IntKind.i64 0, Go.Value.bool false, Go.Value.int Go.IntKind.i64 0], Go.Value.int Go.IntKind.i64 0, Go.Value.int Go.IntKind.i64 0]) := rval_zero Try.zeroValue73
theorem un74 {F : Fr} {h : Hp} {K : TypeDesc → Hp → Prop} : dwp Try.prog F (underlying 74) h K = K (Go.TypeDesc.func #[23] #[56, 56, 3, 3] false) h := by rw [dwp_underlying, Try.underlying74]; rfl
theorem ru74 {F : Fr} {S : Hp} : rval Try.prog F (underlying 74) S = some (Go.TypeDesc.func #[23] #[56, 56, 3, 3] false) := rval_un Try.underlying74
theorem sz74 {F : Fr} {h : Hp} {K : Nat → Hp → Prop} : dwp Try.prog F (sizeOf 74) h K = K 1 h := dwp_size_of Try.sizeOf74
theorem rs74 {F : Fr} {S : Hp} : rval Try.prog F (sizeOf 74) S = some 1 := rval_size Try.sizeOf74
theorem ag74 {F : Fr} {h : Hp} {K : Bool → Hp → Prop} : dwp Try.prog F (isAgg 74) h K = K false h := dwp_agg_of Try.isAgg74
theorem ra74 {F : Fr} {S : Hp} : rval Try.prog F (isAgg 74) S = some false := rval_agg Try.isAgg74
theorem ze74 {F : Fr} {h : Hp} {K : Value → Hp → Prop} : dwp Try.prog F (zeroValue 74) h K = K Go.Value.nilFunc h := dwp_zero_of Try.zeroValue74
theorem rz74 {F : Fr} {S : Hp} : rval Try.prog F (zeroValue 74) S = some (Go.Value.nilFunc) := rval_zero Try.zeroValue74
theorem un75 {F : Fr} {h : Hp} {K : TypeDesc → Hp → Prop} : dwp Try.prog F (underlying 75) h K = K (Go.TypeDesc.func #[24] #[30] false) h := by rw [dwp_underlying, Try.underlying75]; rfl
theorem ru75 {F : Fr} {S : Hp} : rval Try.prog F (underlying 75) S = some (Go.TypeDesc.func #[24] #[30] false) := rval_un Try.underlying75
theorem sz75 {F : Fr} {h : Hp} {K : Nat → Hp → Prop} : dwp Try.prog F (sizeOf 75) h K = K 1 h := dwp_size_of Try.sizeOf75
theorem rs75 {F : Fr} {S : Hp} : rval Try.prog F (sizeOf 75) S = some 1 := rval_size Try.sizeOf75
theorem ag75 {F : Fr} {h : Hp} {K : Bool → Hp → Prop} : dwp Try.prog F (isAgg 75) h K = K false h := dwp_agg_of Try.isAgg75
theorem ra75 {F : Fr} {S : Hp} : rval Try.prog F (isAgg 75) S = some false := rval_agg Try.isAgg75
theorem ze75 {F : Fr} {h : Hp} {K : Value → Hp → Prop} : dwp Try.prog F (zeroValue 75) h K = K Go.Value.nilFunc h := dwp_zero_of Try.zeroValue75
theorem rz75 {F : Fr} {S : Hp} : rval Try.prog F (zeroValue 75) S = some (Go.Value.nilFunc) := rval_zero Try.zeroValue75
theorem un76 {F : Fr} {h : Hp} {K : TypeDesc → Hp → Prop} : dwp Try.prog F (underlying 76) h K = K (Go.TypeDesc.func #[56, 56, 3, 3, 30] #[3, 35] false) h := by rw [dwp_underlying, Try.underlying76]; rfl
theorem ru76 {F : Fr} {S : Hp} : rval Try.prog F (underlying 76) S = some (Go.TypeDesc.func #[56, 56, 3, 3, 30] #[3, 35] false) := rval_un Try.underlying76
theorem sz76 {F : Fr} {h : Hp} {K : Nat → Hp → Prop} : dwp Try.prog F (sizeOf 76) h K = K 1 h := dwp_size_of Try.sizeOf76
theorem rs76 {F : Fr} {S : Hp} : rval Try.prog F (sizeOf 76) S = some 1 := rval_size Try.sizeOf76
theorem ag76 {F : Fr} {h : Hp} {K : Bool → Hp → Prop} : dwp Try.prog F (isAgg 76) h K = K false h := dwp_agg_of Try.isAgg76
theorem ra76 {F : Fr} {S : Hp} : rval Try.prog F (isAgg 76) S = some false := rval_agg Try.isAgg76
theorem ze76 {F : Fr} {h : Hp} {K : Value → Hp → Prop} : dwp Try.prog F (zeroValue 76) h K = K Go.Value.nilFunc h := dwp_zero_of Try.zeroValue76
theorem rz76 {F : Fr} {S : Hp} : rval Try.prog F (zeroValue 76) S = some (Go.Value.nilFunc) := rval_zero Try.zeroValue76
theorem un77 {F : Fr} {h : Hp} {K : TypeDesc → Hp → Prop} : dwp Try.prog F (underlying 77) h K = K (Go.TypeDesc.func #[67, 67, 30] #[3, 35] false) h := by rw [dwp_underlying, Try.underlying77]; rfl
theorem ru77 {F : Fr} {S : Hp} : rval Try.prog F (underlying 77) S = some (Go.TypeDesc.func #[67, 67, 30] #[3, 35] false) := rval_un Try.underlying77
theorem sz77 {F : Fr} {h : Hp} {K : Nat → Hp → Prop} : dwp Try.prog F (sizeOf 77) h K = K 1 h := dwp_size_of Try.sizeOf77
theorem rs77 {F : Fr} {S : Hp} : rval Try.prog F (sizeOf 77) S = some 1 := rval_size Try.sizeOf77
theorem ag77 {F : Fr} {h : Hp} {K : Bool → Hp → Prop} : dwp Try.prog F (isAgg 77) h K = K false h := dwp_agg_of Try.isAgg77
theorem ra77 {F : Fr} {S : Hp} : rval Try.prog F (isAgg 77) S = some false := rval_agg Try.isAgg77
theorem ze77 {F : Fr} {h : Hp} {K : Value → Hp → Prop} : dwp Try.prog F (zeroValue 77) h K = K Go.Value.nilFunc h := dwp_zero_of Try.zeroValue77
theorem rz77 {F : Fr} {S : Hp} : rval Try.prog F (zeroValue 77) S = some (Go.Value.nilFunc) := rval_zero Try.zeroValue77
theorem un78 {F : Fr} {h : Hp} {K : TypeDesc → Hp → Prop} : dwp Try.prog F (underlying 78) h K = K (Go.TypeDesc.func #[23, 24, 24] #[4] false) h := by rw [dwp_underlying, Try.underlying78]; rfl
theorem ru78 {F : Fr} {S : Hp} : rval Try.prog F (underlying 78) S = some (Go.TypeDesc.func #[23, 24, 24] #[4] false) := rval_un Try.underlying78
theorem sz78 {F : Fr} {h : Hp} {K : Nat → Hp → Prop} : dwp Try.prog F (sizeOf 78) h K = K 1 h := dwp_size_of Try.sizeOf78
theorem rs78 {F : Fr} {S : Hp} : rval Try.prog F (sizeOf 78) S = some 1 := rval_size Try.sizeOf78
theorem ag78 {F : Fr} {h : Hp} {K : Bool → Hp → Prop} : dwp Try.prog F (isAgg 78) h K = K false h := dwp_agg_of Try.isAgg78
theorem ra78 {F : Fr} {S : Hp} : rval Try.prog F (isAgg 78) S = some false := rval_agg Try.isAgg78
theorem ze78 {F : Fr} {h : Hp} {K : Value → Hp → Prop} : dwp Try.prog F (zeroValue 78) h K = K Go.Value.nilFunc h := dwp_zero_of Try.zeroValue78
theorem rz78 {F : Fr} {S : Hp} : rval Try.prog F (zeroValue 78) S = some (Go.Value.nilFunc) := rval_zero Try.zeroValue78
theorem un79 {F : Fr} {h : Hp} {K : TypeDesc → Hp → Prop} : dwp Try.prog F (underlying 79) h K = K (Go.TypeDesc.func #[23] #[32] false) h := by rw [dwp_underlying, Try.underlying79]; rfl
theorem ru79 {F : Fr} {S : Hp} : rval Try.prog F (underlying 79) S = some (Go.TypeDesc.func #[23] #[32] false) := rval_un Try.underlying79
theorem sz79 {F : Fr} {h : Hp} {K : Nat → Hp → Prop} : dwp Try.prog F (sizeOf 79) h K = K 1 h := dwp_size_of Try.sizeOf79
theorem rs79 {F : Fr} {S : Hp} : rval Try.prog F (sizeOf 79) S = some 1 := rval_size Try.sizeOf79
theorem ag79 {F : Fr} {h : Hp} {K : Bool → Hp → Prop} : dwp Try.prog F (isAgg 79) h K = K false h := dwp_agg_of Try.isAgg79
theorem ra79 {F : Fr} {S : Hp} : rval Try.prog F (isAgg 79) S = some false := rval_agg Try.isAgg79
theorem ze79 {F : Fr} {h : Hp} {K : Value → Hp → Prop} : dwp Try.prog F (zeroValue 79) h K = K Go.Value.nilFunc h := dwp_zero_of Try.zeroValue79
theorem rz79 {F : Fr} {S : Hp} : rval Try.prog F (zeroValue 79) S = some (Go.Value.nilFunc) := rval_zero Try.zeroValue79
theorem un80 {F : Fr} {h : Hp} {K : TypeDesc → Hp → Prop} : dwp Try.prog F (underlying 80) h K = K (Go.TypeDesc.slice 3) h := by rw [dwp_underlying, Try.underlying80]; rfl
theorem ru80 {F : Fr} {S : Hp} : rval Try.prog F (underlying 80) S = some (Go.TypeDesc.slice 3) := rval_un Try.underlying80
theorem ix80 {F : Fr} {h : Hp} {a : Addr} {n c : Nat} {k : IntKind} {i : Int} {K : Value → Hp → Prop} (h1 : 0 ≤ i) (h2 : i < (n : Int)) : dwp Try.prog F (Instr.indexAt 80 (.slice (some a) n c) (.int k i)) h K = K (.pointer (some (a.add (i.toNat * 1)))) h := dwp_ixS Try.underlying80 Try.sizeOf3 h1 h2
theorem rx80 {F : Fr} {S : Hp} {a : Addr} {n c : Nat} {k : IntKind} {i : Int} (h1 : 0 ≤ i) (h2 : i < (n : Int)) : rval Try.prog F (Instr.indexAt 80 (.slice (some a) n c) (.int k i)) S = some (.pointer (some (a.add (i.toNat * 1)))) := rval_ixS Try.underlying80 Try.sizeOf3 h1 h2
theorem sz80 {F : Fr} {h : Hp} {K : Nat → Hp → Prop} : dwp Try.prog F (sizeOf 80) h K = K 1 h := dwp_size_of Try.sizeOf80
theorem rs80 {F : Fr} {S : Hp} : rval Try.prog F (sizeOf 80) S = some 1 := rval_size Try.sizeOf80
theorem ag80 {F : Fr} {h : Hp} {K : Bool → Hp → Prop} : dwp Try.prog F (isAgg 80) h K = K false h := dwp_agg_of Try.isAgg80
theorem ra80 {F : Fr} {S : Hp} : rval Try.prog F (isAgg 80) S = some false := rval_agg Try.isAgg80
theorem ze80 {F : Fr} {h : Hp} {K : Value → Hp → Prop} : dwp Try.prog F (zeroValue 80) h K = K (Go.Value.slice none 0 0) h := dwp_zero_of Try.zeroValue80
theorem rz80 {F : Fr} {S : Hp} : rval Try.prog F (zeroValue 80) S = some (Go.Value.slice none 0 0) := rval_zero Try.zeroValue80
theorem un81 {F : Fr} {h : Hp} {K : TypeDesc → Hp → Prop} : dwp Try.prog F (underlying 81) h K = K (Go.TypeDesc.struct #[{ name := "Bolts", type := 3, offset := 0, embedded := false, tag := "", pkgPath := "", byteOffset := 0 }, { name := "Kind", type := 32, offset := 1, embedded := false, tag := "", pkgPath := "", byteOffset := 8 }, { name := "Share", type := 80, offset := 14, embedded := false, tag := "", pkgPath := "", byteOffset := 112 }, { name := "Need", type := 3, offset := 15, embedded := false, tag := "", pkgPath := "", byteOffset := 136 }]) h := by rw [dwp_underlying, Try.underlying81]; rfl
theorem ru81 {F : Fr} {S : Hp} : rval Try.prog F (underlying 81) S = some (Go.TypeDesc.struct #[{ name := "Bolts", type := 3, offset := 0, embedded := false, tag := "", pkgPath := "", byteOffset := 0 }, { name := "Kind", type := 32, offset := 1, embedded := false, tag := "", pkgPath := "", byteOffset := 8 }, { name := "Share", type := 80, offset := 14, embedded := false, tag := "", pkgPath := "", byteOffset := 112 }, { name := "Need", type := 3, offset := 15, embedded := false, tag := "", pkgPath := "", byteOffset := 136 }]) := rval_un Try.underlying81
theorem sz81 {F : Fr} {h : Hp} {K : Nat → Hp → Prop} : dwp Try.prog F (sizeOf 81) h K = K 16 h := dwp_size_of Try.sizeOf81
theorem rs81 {F : Fr} {S : Hp} : rval Try.prog F (sizeOf 81) S = some 16 := rval_size Try.sizeOf81
theorem ag81 {F : Fr} {h : Hp} {K : Bool → Hp → Prop} : dwp Try.prog F (isAgg 81) h K = K true h := dwp_agg_of Try.isAgg81
theorem ra81 {F : Fr} {S : Hp} : rval Try.prog F (isAgg 81) S = some true := rval_agg Try.isAgg81
theorem ze81 {F : Fr} {h : Hp} {K : Value → Hp → Prop} : dwp Try.prog F (zeroValue 81) h K = K (Go.Value.agg #[Go.Value.int Go.IntKind.i64 0, Go.Value.int Go.IntKind.i64 0, Go.Value.int Go.IntKind.i64 0, Go.Value.int Go.IntKind.i64 0, Go.Value.int Go.IntKind.i64 0, Go.Value.int Go.IntKind.i64 0, Go.Value.int Go.IntKind.i64 0, Go.Value.int Go.IntKind.i64 0, Go.Value.int Go.IntKind.i64 0, Go.Value.int Go.IntKind.i64 0, Go.Value.int Go.IntKind.i64 0, Go.Value.int Go.IntKind.i64 0, Go.Value.int Go.IntKind.i64 0, Go.Value.int Go.IntKind.i64 0, Go.Value.slice none 0 0, Go.Value.int Go.IntKind.i64 0]) h := dwp_zero_of Try.zeroValue81
theorem rz81 {F : Fr} {S : Hp} : rval Try.prog F (zeroValue 81) S = some (Go.Value.agg #[Go.Value.int Go.IntKind.i64 0, Go.Value.int Go.IntKind.i64 0, Go.Value.int Go.IntKind.i64 0, Go.Value.int Go.IntKind.i64 0, Go.Value.int Go.IntKind.i64 0, Go.Value.int Go.IntKind.i64 0, Go.Value.int Go.IntKind.i64 0, Go.Value.int Go.IntKind.i64 0, Go.Value.int Go.IntKind.i64 0, Go.Value.int Go.IntKind.i64 0, Go.Value.int Go.IntKind.i64 0, Go.Value.int Go.IntKind.i64 0, Go.Value.int Go.IntKind.i64 0, Go.Value.int Go.IntKind.i64 0, Go.Value.slice none 0 0, Go.Value.int Go.IntKind.i64 0]) := rval_zero Try.zeroValue81
theorem un82 {F : Fr} {h : Hp} {K : TypeDesc → Hp → Prop} : dwp Try.prog F (underlying 82) h K = K (Go.TypeDesc.struct #[{ name := "Bolts", type := 3, offset := 0, embedded := false, tag := "", pkgPath := "", byteOffset := 0 }, { name := "Kind", type := 32, offset := 1, embedded := false, tag := "", pkgPath := "", byteOffset := 8 }, { name := "Share", type := 80, offset := 14, embedded := false, tag := "", pkgPath := "", byteOffset := 112 }, { name := "Need", type := 3, offset := 15, embedded := false, tag := "", pkgPath := "", byteOffset := 136 }]) h := by rw [dwp_underlying, Try.underlying82]; rfl
theorem ru82 {F : Fr} {S : Hp} : rval Try.prog F (underlying 82) S = some (Go.TypeDesc.struct #[{ name := "Bolts", type := 3, offset := 0, embedded := false, tag := "", pkgPath := "", byteOffset := 0 }, { name := "Kind", type := 32, offset := 1, embedded := false, tag := "", pkgPath := "", byteOffset := 8 }, { name := "Share", type := 80, offset := 14, embedded := false, tag := "", pkgPath := "", byteOffset := 112 }, { name := "Need", type := 3, offset := 15, embedded := false, tag := "", pkgPath := "", byteOffset := 136 }]) := rval_un Try.underlying82
theorem sz82 {F : Fr} {h : Hp} {K : Nat → Hp → Prop} : dwp Try.prog F (sizeOf 82) h K = K 16 h := dwp_size_of Try.sizeOf82
theorem rs82 {F : Fr} {S : Hp} : rval Try.prog F (sizeOf 82) S = some 16 := rval_size Try.sizeOf82
theorem ag82 {F : Fr} {h : Hp} {K : Bool → Hp → Prop} : dwp Try.prog F (isAgg 82) h K = K true h := dwp_agg_of Try.isAgg82
theorem ra82 {F : Fr} {S : Hp} : rval Try.prog F (isAgg 82) S = some true := rval_agg Try.isAgg82
theorem ze82 {F : Fr} {h : Hp} {K : Value → Hp → Prop} : dwp Try.prog F (zeroValue 82) h K = K (Go.Value.agg #[Go.Value.int Go.IntKind.i64 0, Go.Value.int Go.IntKind.i64 0, Go.Value.int Go.IntKind.i64 0, Go.Value.int Go.IntKind.i64 0, Go.Value.int Go.IntKind.i64 0, Go.Value.int Go.IntKind.i64 0, Go.Value.int Go.IntKind.i64 0, Go.Value.int Go.IntKind.i64 0, Go.Value.int Go.IntKind.i64 0, Go.Value.int Go.IntKind.i64 0, Go.Value.int Go.IntKind.i64 0, Go.Value.int Go.IntKind.i64 0, Go.Value.int Go.IntKind.i64 0, Go.Value.int Go.IntKind.i64 0, Go.Value.slice none 0 0, Go.Value.int Go.IntKind.i64 0]) h := dwp_zero_of Try.zeroValue82
theorem rz82 {F : Fr} {S : Hp} : rval Try.prog F (zeroValue 82) S = some (Go.Value.agg #[Go.Value.int Go.IntKind.i64 0, Go.Value.int Go.IntKind.i64 0, Go.Value.int Go.IntKind.i64 0, Go.Value.int Go.IntKind.i64 0, Go.Value.int Go.IntKind.i64 0, Go.Value.int Go.IntKind.i64 0, Go.Value.int Go.IntKind.i64 0, Go.Value.int Go.IntKind.i64 0, Go.Value.int Go.IntKind.i64 0, Go.Value.int Go.IntKind.i64 0, Go.Value.int Go.IntKind.i64 0, Go.Value.int Go.IntKind.i64 0, Go.Value.int Go.IntKind.i64 0, Go.Value.int Go.IntKind.i64 0, Go.Value.slice none 0 0, Go.Value.int Go.IntKind.i64 0]) := rval_zero Try.zeroValue82
theorem un83 {F : Fr} {h : Hp} {K : TypeDesc → Hp → Prop} : dwp Try.prog F (underlying 83) h K = K (Go.TypeDesc.func #[32, 3, 3] #[82] false) h := by rw [dwp_underlying, Try.underlying83]; rfl
theorem ru83 {F : Fr} {S : Hp} : rval Try.prog F (underlying 83) S = some (Go.TypeDesc.func #[32, 3, 3] #[82] false) := rval_un Try.underlying83
theorem sz83 {F : Fr} {h : Hp} {K : Nat → Hp → Prop} : dwp Try.prog F (sizeOf 83) h K = K 1 h := dwp_size_of Try.sizeOf83
theorem rs83 {F : Fr} {S : Hp} : rval Try.prog F (sizeOf 83) S = some 1 := rval_size Try.sizeOf83
theorem ag83 {F : Fr} {h : Hp} {K : Bool → Hp → Prop} : dwp Try.prog F (isAgg 83) h K = K false h := dwp_agg_of Try.isAgg83
theorem ra83 {F : Fr} {S : Hp} : rval Try.prog F (isAgg 83) S = some false := rval_agg Try.isAgg83
theorem ze83 {F : Fr} {h : Hp} {K : Value → Hp → Prop} : dwp Try.prog F (zeroValue 83) h K = K Go.Value.nilFunc h := dwp_zero_of Try.zeroValue83
theorem rz83 {F : Fr} {S : Hp} : rval Try.prog F (zeroValue 83) S = some (Go.Value.nilFunc) := rval_zero Try.zeroValue83
theorem un84 {F : Fr} {h : Hp} {K : TypeDesc → Hp → Prop} : dwp Try.prog F (underlying 84) h K = K (Go.TypeDesc.slice 30) h := by rw [dwp_underlying, Try.underlying84]; rfl
theorem ru84 {F : Fr} {S : Hp} : rval Try.prog F (underlying 84) S = some (Go.TypeDesc.slice 30) := rval_un Try.underlying84
theorem ix84 {F : Fr} {h : Hp} {a : Addr} {n c : Nat} {k : IntKind} {i : Int} {K : Value → Hp → Prop} (h1 : 0 ≤ i) (h2 : i < (n : Int)) : dwp Try.prog F (Instr.indexAt 84 (.slice (some a) n c) (.int k i)) h K = K (.pointer (some (a.add (i.toNat * 2)))) h := dwp_ixS Try.underlying84 Try.sizeOf30 h1 h2
theorem rx84 {F : Fr} {S : Hp} {a : Addr} {n c : Nat} {k : IntKind} {i : Int} (h1 : 0 ≤ i) (h2 : i < (n : Int)) : rval Try.prog F (Instr.indexAt 84 (.slice (some a) n c) (.int k i)) S = some (.pointer (some (a.add (i.toNat * 2)))) := rval_ixS Try.underlying84 Try.sizeOf30 h1 h2
theorem sz84 {F : Fr} {h : Hp} {K : Nat → Hp → Prop} : dwp Try.prog F (sizeOf 84) h K = K 1 h := dwp_size_of Try.sizeOf84
theorem rs84 {F : Fr} {S : Hp} : rval Try.prog F (sizeOf 84) S = some 1 := rval_size Try.sizeOf84
theorem ag84 {F : Fr} {h : Hp} {K : Bool → Hp → Prop} : dwp Try.prog F (isAgg 84) h K = K false h := dwp_agg_of Try.isAgg84
theorem ra84 {F : Fr} {S : Hp} : rval Try.prog F (isAgg 84) S = some false := rval_agg Try.isAgg84
theorem ze84 {F : Fr} {h : Hp} {K : Value → Hp → Prop} : dwp Try.prog F (zeroValue 84) h K = K (Go.Value.slice none 0 0) h := dwp_zero_of Try.zeroValue84
theorem rz84 {F : Fr} {S : Hp} : rval Try.prog F (zeroValue 84) S = some (Go.Value.slice none 0 0) := rval_zero Try.zeroValue84
theorem un85 {F : Fr} {h : Hp} {K : TypeDesc → Hp → Prop} : dwp Try.prog F (underlying 85) h K = K (Go.TypeDesc.struct #[{ name := "Forces", type := 84, offset := 0, embedded := false, tag := "", pkgPath := "", byteOffset := 0 }, { name := "Most", type := 3, offset := 1, embedded := false, tag := "", pkgPath := "", byteOffset := 24 }, { name := "Lost", type := 84, offset := 2, embedded := false, tag := "", pkgPath := "", byteOffset := 32 }]) h := by rw [dwp_underlying, Try.underlying85]; rfl
theorem ru85 {F : Fr} {S : Hp} : rval Try.prog F (underlying 85) S = some (Go.TypeDesc.struct #[{ name := "Forces", type := 84, offset := 0, embedded := false, tag := "", pkgPath := "", byteOffset := 0 }, { name := "Most", type := 3, offset := 1, embedded := false, tag := "", pkgPath := "", byteOffset := 24 }, { name := "Lost", type := 84, offset := 2, embedded := false, tag := "", pkgPath := "", byteOffset := 32 }]) := rval_un Try.underlying85
theorem sz85 {F : Fr} {h : Hp} {K : Nat → Hp → Prop} : dwp Try.prog F (sizeOf 85) h K = K 3 h := dwp_size_of Try.sizeOf85
theorem rs85 {F : Fr} {S : Hp} : rval Try.prog F (sizeOf 85) S = some 3 := rval_size Try.sizeOf85
theorem ag85 {F : Fr} {h : Hp} {K : Bool → Hp → Prop} : dwp Try.prog F (isAgg 85) h K = K true h := dwp_agg_of Try.isAgg85
theorem ra85 {F : Fr} {S : Hp} : rval Try.prog F (isAgg 85) S = some true := rval_agg Try.isAgg85
theorem ze85 {F : Fr} {h : Hp} {K : Value → Hp → Prop} : dwp Try.prog F (zeroValue 85) h K = K (Go.Value.agg #[Go.Value.slice none 0 0, Go.Value.int Go.IntKind.i64 0, Go.Value.slice none 0 0]) h := dwp_zero_of Try.zeroValue85
theorem rz85 {F : Fr} {S : Hp} : rval Try.prog F (zeroValue 85) S = some (Go.Value.agg #[Go.Value.slice none 0 0, Go.Value.int Go.IntKind.i64 0, Go.Value.slice none 0 0]) := rval_zero Try.zeroValue85
theorem un86 {F : Fr} {h : Hp} {K : TypeDesc → Hp → Prop} : dwp Try.prog F (underlying 86) h K = K (Go.TypeDesc.struct #[{ name := "Forces", type := 84, offset := 0, embedded := false, tag := "", pkgPath := "", byteOffset := 0 }, { name := "Most", type := 3, offset := 1, embedded := false, tag := "", pkgPath := "", byteOffset := 24 }, { name := "Lost", type := 84, offset := 2, embedded := false, tag := "", pkgPath := "", byteOffset := 32 }]) h := by rw [dwp_underlying, Try.underlying86]; rfl
theorem ru86 {F : Fr} {S : Hp} : rval Try.prog F (underlying 86) S = some (Go.TypeDesc.struct #[{ name := "Forces", type := 84, offset := 0, embedded := false, tag := "", pkgPath := "", byteOffset := 0 }, { name := "Most", type := 3, offset := 1, embedded := false, tag := "", pkgPath := "", byteOffset := 24 }, { name := "Lost", type := 84, offset := 2, embedded := false, tag := "", pkgPath := "", byteOffset := 32 }]) := rval_un Try.underlying86
theorem sz86 {F : Fr} {h : Hp} {K : Nat → Hp → Prop} : dwp Try.prog F (sizeOf 86) h K = K 3 h := dwp_size_of Try.sizeOf86
theorem rs86 {F : Fr} {S : Hp} : rval Try.prog F (sizeOf 86) S = some 3 := rval_size Try.sizeOf86
theorem ag86 {F : Fr} {h : Hp} {K : Bool → Hp → Prop} : dwp Try.prog F (isAgg 86) h K = K true h := dwp_agg_of Try.isAgg86
theorem ra86 {F : Fr} {S : Hp} : rval Try.prog F (isAgg 86) S = some true := rval_agg Try.isAgg86
theorem ze86 {F : Fr} {h : Hp} {K : Value → Hp → Prop} : dwp Try.prog F (zeroValue 86) h K = K (Go.Value.agg #[Go.Value.slice none 0 0, Go.Value.int Go.IntKind.i64 0, Go.Value.slice none 0 0]) h := dwp_zero_of Try.zeroValue86
theorem rz86 {F : Fr} {S : Hp} : rval Try.prog F (zeroValue 86) S = some (Go.Value.agg #[Go.Value.slice none 0 0, Go.Value.int Go.IntKind.i64 0, Go.Value.slice none 0 0]) := rval_zero Try.zeroValue86
theorem un87 {F : Fr} {h : Hp} {K : TypeDesc → Hp → Prop} : dwp Try.prog F (underlying 87) h K = K (Go.TypeDesc.tuple #[86, 35]) h := by rw [dwp_underlying, Try.underlying87]; rfl
theorem ru87 {F : Fr} {S : Hp} : rval Try.prog F (underlying 87) S = some (Go.TypeDesc.tuple #[86, 35]) := rval_un Try.underlying87
theorem sz87 {F : Fr} {h : Hp} {K : Nat → Hp → Prop} : dwp Try.prog F (sizeOf 87) h K = K 1 h := dwp_size_of Try.sizeOf87
theorem rs87 {F : Fr} {S : Hp} : rval Try.prog F (sizeOf 87) S = some 1 := rval_size Try.sizeOf87
theorem ag87 {F : Fr} {h : Hp} {K : Bool → Hp → Prop} : dwp Try.prog F (isAgg 87) h K = K false h := dwp_agg_of Try.isAgg87
theorem ra87 {F : Fr} {S : Hp} : rval Try.prog F (isAgg 87) S = some false := rval_agg Try.isAgg87
theorem ze87 {F : Fr} {h : Hp} {K : Value → Hp → Prop} : dwp Try.prog F (zeroValue 87) h K = K (Go.Value.tuple #[Go.Value.agg #[Go.Value.slice none 0 0, Go.Value.int Go.IntKind.i64 0, Go.Value.slice none 0 0], Go.Value.int Go.IntKind.i64 0]) h := dwp_zero_of Try.zeroValue87
theorem rz87 {F : Fr} {S : Hp} : rval Try.prog F (zeroValue 87) S = some (Go.Value.tuple #[Go.Value.agg #[Go.Value.slice none 0 0, Go.Value.int Go.IntKind.i64 0, Go.Value.slice none 0 0], Go.Value.int Go.IntKind.i64 0]) := rval_zero Try.zeroValue87
theorem un88 {F : Fr} {h : Hp} {K : TypeDesc → Hp → Prop} : dwp Try.prog F (underlying 88) h K = K (Go.TypeDesc.func #[82, 89] #[86, 35] false) h := by rw [dwp_underlying, Try.underlying88]; rfl
theorem ru88 {F : Fr} {S : Hp} : rval Try.prog F (underlying 88) S = some (Go.TypeDesc.func #[82, 89] #[86, 35] false) := rval_un Try.underlying88
theorem sz88 {F : Fr} {h : Hp} {K : Nat → Hp → Prop} : dwp Try.prog F (sizeOf 88) h K = K 1 h := dwp_size_of Try.sizeOf88
theorem rs88 {F : Fr} {S : Hp} : rval Try.prog F (sizeOf 88) S = some 1 := rval_size Try.sizeOf88
theorem ag88 {F : Fr} {h : Hp} {K : Bool → Hp → Prop} : dwp Try.prog F (isAgg 88) h K = K false h := dwp_agg_of Try.isAgg88
theorem ra88 {F : Fr} {S : Hp} : rval Try.prog F (isAgg 88) S = some false := rval_agg Try.isAgg88
theorem ze88 {F : Fr} {h : Hp} {K : Value → Hp → Prop} : dwp Try.prog F (zeroValue 88) h K = K Go.Value.nilFunc h := dwp_zero_of Try.zeroValue88
theorem rz88 {F : Fr} {S : Hp} : rval Try.prog F (zeroValue 88) S = some (Go.Value.nilFunc) := rval_zero Try.zeroValue88
theorem un89 {F : Fr} {h : Hp} {K : TypeDesc → Hp → Prop} : dwp Try.prog F (underlying 89) h K = K (Go.TypeDesc.slice 159) h := by rw [dwp_underlying, Try.underlying89]; rfl
theorem ru89 {F : Fr} {S : Hp} : rval Try.prog F (underlying 89) S = some (Go.TypeDesc.slice 159) := rval_un Try.underlying89
theorem ix89 {F : Fr} {h : Hp} {a : Addr} {n c : Nat} {k : IntKind} {i : Int} {K : Value → Hp → Prop} (h1 : 0 ≤ i) (h2 : i < (n : Int)) : dwp Try.prog F (Instr.indexAt 89 (.slice (some a) n c) (.int k i)) h K = K (.pointer (some (a.add (i.toNat * 2)))) h := dwp_ixS Try.underlying89 Try.sizeOf159 h1 h2
theorem rx89 {F : Fr} {S : Hp} {a : Addr} {n c : Nat} {k : IntKind} {i : Int} (h1 : 0 ≤ i) (h2 : i < (n : Int)) : rval Try.prog F (Instr.indexAt 89 (.slice (some a) n c) (.int k i)) S = some (.pointer (some (a.add (i.toNat * 2)))) := rval_ixS Try.underlying89 Try.sizeOf159 h1 h2
theorem sz89 {F : Fr} {h : Hp} {K : Nat → Hp → Prop} : dwp Try.prog F (sizeOf 89) h K = K 1 h := dwp_size_of Try.sizeOf89
theorem rs89 {F : Fr} {S : Hp} : rval Try.prog F (sizeOf 89) S = some 1 := rval_size Try.sizeOf89
theorem ag89 {F : Fr} {h : Hp} {K : Bool → Hp → Prop} : dwp Try.prog F (isAgg 89) h K = K false h := dwp_agg_of Try.isAgg89
theorem ra89 {F : Fr} {S : Hp} : rval Try.prog F (isAgg 89) S = some false := rval_agg Try.isAgg89
theorem ze89 {F : Fr} {h : Hp} {K : Value → Hp → Prop} : dwp Try.prog F (zeroValue 89) h K = K (Go.Value.slice none 0 0) h := dwp_zero_of Try.zeroValue89
theorem rz89 {F : Fr} {S : Hp} : rval Try.prog F (zeroValue 89) S = some (Go.Value.slice none 0 0) := rval_zero Try.zeroValue89
theorem un90 {F : Fr} {h : Hp} {K : TypeDesc → Hp → Prop} : dwp Try.prog F (underlying 90) h K = K (Go.TypeDesc.func #[3, 3] #[89] false) h := by rw [dwp_underlying, Try.underlying90]; rfl
theorem ru90 {F : Fr} {S : Hp} : rval Try.prog F (underlying 90) S = some (Go.TypeDesc.func #[3, 3] #[89] false) := rval_un Try.underlying90
theorem sz90 {F : Fr} {h : Hp} {K : Nat → Hp → Prop} : dwp Try.prog F (sizeOf 90) h K = K 1 h := dwp_size_of Try.sizeOf90
theorem rs90 {F : Fr} {S : Hp} : rval Try.prog F (sizeOf 90) S = some 1 := rval_size Try.sizeOf90
theorem ag90 {F : Fr} {h : Hp} {K : Bool → Hp → Prop} : dwp Try.prog F (isAgg 90) h K = K false h := dwp_agg_of Try.isAgg90
theorem ra90 {F : Fr} {S : Hp} : rval Try.prog F (isAgg 90) S = some false := rval_agg Try.isAgg90
theorem ze90 {F : Fr} {h : Hp} {K : Value → Hp → Prop} : dwp Try.prog F (zeroValue 90) h K = K Go.Value.nilFunc h := dwp_zero_of Try.zeroValue90
theorem rz90 {F : Fr} {S : Hp} : rval Try.prog F (zeroValue 90) S = some (Go.Value.nilFunc) := rval_zero Try.zeroValue90
theorem un91 {F : Fr} {h : Hp} {K : TypeDesc → Hp → Prop} : dwp Try.prog F (underlying 91) h K = K (Go.TypeDesc.func #[32, 49, 30] #[30, 35] false) h := by rw [dwp_underlying, Try.underlying91]; rfl
theorem ru91 {F : Fr} {S : Hp} : rval Try.prog F (underlying 91) S = some (Go.TypeDesc.func #[32, 49, 30] #[30, 35] false) := rval_un Try.underlying91
theorem sz91 {F : Fr} {h : Hp} {K : Nat → Hp → Prop} : dwp Try.prog F (sizeOf 91) h K = K 1 h := dwp_size_of Try.sizeOf91
theorem rs91 {F : Fr} {S : Hp} : rval Try.prog F (sizeOf 91) S = some 1 := rval_size Try.sizeOf91
theorem ag91 {F : Fr} {h : Hp} {K : Bool → Hp → Prop} : dwp Try.prog F (isAgg 91) h K = K false h := dwp_agg_of Try.isAgg91
theorem ra91 {F : Fr} {S : Hp} : rval Try.prog F (isAgg 91) S = some false := rval_agg Try.isAgg91
theorem ze91 {F : Fr} {h : Hp} {K : Value → Hp → Prop} : dwp Try.prog F (zeroValue 91) h K = K Go.Value.nilFunc h := dwp_zero_of Try.zeroValue91
theorem rz91 {F : Fr} {S : Hp} : rval Try.prog F (zeroValue 91) S = some (Go.Value.nilFunc) := rval_zero Try.zeroValue91
theorem un92 {F : Fr} {h : Hp} {K : TypeDesc → Hp → Prop} : dwp Try.prog F (underlying 92) h K = K (Go.TypeDesc.func #[3] #[49] false) h := by rw [dwp_underlying, Try.underlying92]; rfl
theorem ru92 {F : Fr} {S : Hp} : rval Try.prog F (underlying 92) S = some (Go.TypeDesc.func #[3] #[49] false) := rval_un Try.underlying92
theorem sz92 {F : Fr} {h : Hp} {K : Nat → Hp → Prop} : dwp Try.prog F (sizeOf 92) h K = K 1 h := dwp_size_of Try.sizeOf92
theorem rs92 {F : Fr} {S : Hp} : rval Try.prog F (sizeOf 92) S = some 1 := rval_size Try.sizeOf92
theorem ag92 {F : Fr} {h : Hp} {K : Bool → Hp → Prop} : dwp Try.prog F (isAgg 92) h K = K false h := dwp_agg_of Try.isAgg92
theorem ra92 {F : Fr} {S : Hp} : rval Try.prog F (isAgg 92) S = some false := rval_agg Try.isAgg92
theorem ze92 {F : Fr} {h : Hp} {K : Value → Hp → Prop} : dwp Try.prog F (zeroValue 92) h K = K Go.Value.nilFunc h := dwp_zero_of Try.zeroValue92
theorem rz92 {F : Fr} {S : Hp} : rval Try.prog F (zeroValue 92) S = some (Go.Value.nilFunc) := rval_zero Try.zeroValue92
theorem un93 {F : Fr} {h : Hp} {K : TypeDesc → Hp → Prop} : dwp Try.prog F (underlying 93) h K = K (Go.TypeDesc.func #[23, 23, 24] #[4] false) h := by rw [dwp_underlying, Try.underlying93]; rfl
theorem ru93 {F : Fr} {S : Hp} : rval Try.prog F (underlying 93) S = some (Go.TypeDesc.func #[23, 23, 24] #[4] false) := rval_un Try.underlying93
theorem sz93 {F : Fr} {h : Hp} {K : Nat → Hp → Prop} : dwp Try.prog F (sizeOf 93) h K = K 1 h := dwp_size_of Try.sizeOf93
theorem rs93 {F : Fr} {S : Hp} : rval Try.prog F (sizeOf 93) S = some 1 := rval_size Try.sizeOf93
theorem ag93 {F : Fr} {h : Hp} {K : Bool → Hp → Prop} : dwp Try.prog F (isAgg 93) h K = K false h := dwp_agg_of Try.isAgg93
theorem ra93 {F : Fr} {S : Hp} : rval Try.prog F (isAgg 93) S = some false := rval_agg Try.isAgg93
theorem ze93 {F : Fr} {h : Hp} {K : Value → Hp → Prop} : dwp Try.prog F (zeroValue 93) h K = K Go.Value.nilFunc h := dwp_zero_of Try.zeroValue93
theorem rz93 {F : Fr} {S : Hp} : rval Try.prog F (zeroValue 93) S = some (Go.Value.nilFunc) := rval_zero Try.zeroValue93
theorem un94 {F : Fr} {h : Hp} {K : TypeDesc → Hp → Prop} : dwp Try.prog F (underlying 94) h K = K (Go.TypeDesc.func #[54, 5, 5] #[4] false) h := by rw [dwp_underlying, Try.underlying94]; rfl
theorem ru94 {F : Fr} {S : Hp} : rval Try.prog F (underlying 94) S = some (Go.TypeDesc.func #[54, 5, 5] #[4] false) := rval_un Try.underlying94
theorem sz94 {F : Fr} {h : Hp} {K : Nat → Hp → Prop} : dwp Try.prog F (sizeOf 94) h K = K 1 h := dwp_size_of Try.sizeOf94
theorem rs94 {F : Fr} {S : Hp} : rval Try.prog F (sizeOf 94) S = some 1 := rval_size Try.sizeOf94
theorem ag94 {F : Fr} {h : Hp} {K : Bool → Hp → Prop} : dwp Try.prog F (isAgg 94) h K = K false h := dwp_agg_of Try.isAgg94
theorem ra94 {F : Fr} {S : Hp} : rval Try.prog F (isAgg 94) S = some false := rval_agg Try.isAgg94
theorem ze94 {F : Fr} {h : Hp} {K : Value → Hp → Prop} : dwp Try.prog F (zeroValue 94) h K = K Go.Value.nilFunc h := dwp_zero_of Try.zeroValue94
theorem rz94 {F : Fr} {S : Hp} : rval Try.prog F (zeroValue 94) S = some (Go.Value.nilFunc) := rval_zero Try.zeroValue94
theorem un95 {F : Fr} {h : Hp} {K : TypeDesc → Hp → Prop} : dwp Try.prog F (underlying 95) h K = K (Go.TypeDesc.func #[23] #[56] false) h := by rw [dwp_underlying, Try.underlying95]; rfl
theorem ru95 {F : Fr} {S : Hp} : rval Try.prog F (underlying 95) S = some (Go.TypeDesc.func #[23] #[56] false) := rval_un Try.underlying95
theorem sz95 {F : Fr} {h : Hp} {K : Nat → Hp → Prop} : dwp Try.prog F (sizeOf 95) h K = K 1 h := dwp_size_of Try.sizeOf95
theorem rs95 {F : Fr} {S : Hp} : rval Try.prog F (sizeOf 95) S = some 1 := rval_size Try.sizeOf95
theorem ag95 {F : Fr} {h : Hp} {K : Bool → Hp → Prop} : dwp Try.prog F (isAgg 95) h K = K false h := dwp_agg_of Try.isAgg95
theorem ra95 {F : Fr} {S : Hp} : rval Try.prog F (isAgg 95) S = some false := rval_agg Try.isAgg95
theorem ze95 {F : Fr} {h : Hp} {K : Value → Hp → Prop} : dwp Try.prog F (zeroValue 95) h K = K Go.Value.nilFunc h := dwp_zero_of Try.zeroValue95
theorem rz95 {F : Fr} {S : Hp} : rval Try.prog F (zeroValue 95) S = some (Go.Value.nilFunc) := rval_zero Try.zeroValue95
theorem un96 {F : Fr} {h : Hp} {K : TypeDesc → Hp → Prop} : dwp Try.prog F (underlying 96) h K = K (Go.TypeDesc.func #[99, 102, 4, 3] #[30, 35] false) h := by rw [dwp_underlying, Try.underlying96]; rfl
theorem ru96 {F : Fr} {S : Hp} : rval Try.prog F (underlying 96) S = some (Go.TypeDesc.func #[99, 102, 4, 3] #[30, 35] false) := rval_un Try.underlying96
theorem sz96 {F : Fr} {h : Hp} {K : Nat → Hp → Prop} : dwp Try.prog F (sizeOf 96) h K = K 1 h := dwp_size_of Try.sizeOf96
theorem rs96 {F : Fr} {S : Hp} : rval Try.prog F (sizeOf 96) S = some 1 := rval_size Try.sizeOf96
theorem ag96 {F : Fr} {h : Hp} {K : Bool → Hp → Prop} : dwp Try.prog F (isAgg 96) h K = K false h := dwp_agg_of Try.isAgg96
theorem ra96 {F : Fr} {S : Hp} : rval Try.prog F (isAgg 96) S = some false := rval_agg Try.isAgg96
theorem ze96 {F : Fr} {h : Hp} {K : Value → Hp → Prop} : dwp Try.prog F (zeroValue 96) h K = K Go.Value.nilFunc h := dwp_zero_of Try.zeroValue96
theorem rz96 {F : Fr} {S : Hp} : rval Try.prog F (zeroValue 96) S = some (Go.Value.nilFunc) := rval_zero Try.zeroValue96
theorem un97 {F : Fr} {h : Hp} {K : TypeDesc → Hp → Prop} : dwp Try.prog F (underlying 97) h K = K (Go.TypeDesc.slice 80) h := by rw [dwp_underlying, Try.underlying97]; rfl
theorem ru97 {F : Fr} {S : Hp} : rval Try.prog F (underlying 97) S = some (Go.TypeDesc.slice 80) := rval_un Try.underlying97
theorem ix97 {F : Fr} {h : Hp} {a : Addr} {n c : Nat} {k : IntKind} {i : Int} {K : Value → Hp → Prop} (h1 : 0 ≤ i) (h2 : i < (n : Int)) : dwp Try.prog F (Instr.indexAt 97 (.slice (some a) n c) (.int k i)) h K = K (.pointer (some (a.add (i.toNat * 1)))) h := dwp_ixS Try.underlying97 Try.sizeOf80 h1 h2
theorem rx97 {F : Fr} {S : Hp} {a : Addr} {n c : Nat} {k : IntKind} {i : Int} (h1 : 0 ≤ i) (h2 : i < (n : Int)) : rval Try.prog F (Instr.indexAt 97 (.slice (some a) n c) (.int k i)) S = some (.pointer (some (a.add (i.toNat * 1)))) := rval_ixS Try.underlying97 Try.sizeOf80 h1 h2
theorem sz97 {F : Fr} {h : Hp} {K : Nat → Hp → Prop} : dwp Try.prog F (sizeOf 97) h K = K 1 h := dwp_size_of Try.sizeOf97
theorem rs97 {F : Fr} {S : Hp} : rval Try.prog F (sizeOf 97) S = some 1 := rval_size Try.sizeOf97
theorem ag97 {F : Fr} {h : Hp} {K : Bool → Hp → Prop} : dwp Try.prog F (isAgg 97) h K = K false h := dwp_agg_of Try.isAgg97
theorem ra97 {F : Fr} {S : Hp} : rval Try.prog F (isAgg 97) S = some false := rval_agg Try.isAgg97
theorem ze97 {F : Fr} {h : Hp} {K : Value → Hp → Prop} : dwp Try.prog F (zeroValue 97) h K = K (Go.Value.slice none 0 0) h := dwp_zero_of Try.zeroValue97
theorem rz97 {F : Fr} {S : Hp} : rval Try.prog F (zeroValue 97) S = some (Go.Value.slice none 0 0) := rval_zero Try.zeroValue97
theorem un98 {F : Fr} {h : Hp} {K : TypeDesc → Hp → Prop} : dwp Try.prog F (underlying 98) h K = K (Go.TypeDesc.struct #[{ name := "Steps", type := 80, offset := 0, embedded := false, tag := "", pkgPath := "", byteOffset := 0 }, { name := "Grades", type := 97, offset := 1, embedded := false, tag := "", pkgPath := "", byteOffset := 24 }, { name := "Places", type := 97, offset := 2, embedded := false, tag := "", pkgPath := "", byteOffset := 48 }]) h := by rw [dwp_underlying, Try.underlying98]; rfl
theorem ru98 {F : Fr} {S : Hp} : rval Try.prog F (underlying 98) S = some (Go.TypeDesc.struct #[{ name := "Steps", type := 80, offset := 0, embedded := false, tag := "", pkgPath := "", byteOffset := 0 }, { name := "Grades", type := 97, offset := 1, embedded := false, tag := "", pkgPath := "", byteOffset := 24 }, { name := "Places", type := 97, offset := 2, embedded := false, tag := "", pkgPath := "", byteOffset := 48 }]) := rval_un Try.underlying98
theorem sz98 {F : Fr} {h : Hp} {K : Nat → Hp → Prop} : dwp Try.prog F (sizeOf 98) h K = K 3 h := dwp_size_of Try.sizeOf98
theorem rs98 {F : Fr} {S : Hp} : rval Try.prog F (sizeOf 98) S = some 3 := rval_size Try.sizeOf98
theorem ag98 {F : Fr} {h : Hp} {K : Bool → Hp → Prop} : dwp Try.prog F (isAgg 98) h K = K true h := dwp_agg_of Try.isAgg98
theorem ra98 {F : Fr} {S : Hp} : rval Try.prog F (isAgg 98) S = some true := rval_agg Try.isAgg98
theorem ze98 {F : Fr} {h : Hp} {K : Value → Hp → Prop} : dwp Try.prog F (zeroValue 98) h K = K (Go.Value.agg #[Go.Value.slice none 0 0, Go.Value.slice none 0 0, Go.Value.slice none 0 0]) h := dwp_zero_of Try.zeroValue98
theorem rz98 {F : Fr} {S : Hp} : rval Try.prog F (zeroValue 98) S = some (Go.Value.agg #[Go.Value.slice none 0 0, Go.Value.slice none 0 0, Go.Value.slice none 0 0]) := rval_zero Try.zeroValue98
theorem un99 {F : Fr} {h : Hp} {K : TypeDesc → Hp → Prop} : dwp Try.prog F (underlying 99) h K = K (Go.TypeDesc.struct #[{ name := "Steps", type := 80, offset := 0, embedded := false, tag := "", pkgPath := "", byteOffset := 0 }, { name := "Grades", type := 97, offset := 1, embedded := false, tag := "", pkgPath := "", byteOffset := 24 }, { name := "Places", type := 97, offset := 2, embedded := false, tag := "", pkgPath := "", byteOffset := 48 }]) h := by rw [dwp_underlying, Try.underlying99]; rfl
theorem ru99 {F : Fr} {S : Hp} : rval Try.prog F (underlying 99) S = some (Go.TypeDesc.struct #[{ name := "Steps", type := 80, offset := 0, embedded := false, tag := "", pkgPath := "", byteOffset := 0 }, { name := "Grades", type := 97, offset := 1, embedded := false, tag := "", pkgPath := "", byteOffset := 24 }, { name := "Places", type := 97, offset := 2, embedded := false, tag := "", pkgPath := "", byteOffset := 48 }]) := rval_un Try.underlying99
theorem sz99 {F : Fr} {h : Hp} {K : Nat → Hp → Prop} : dwp Try.prog F (sizeOf 99) h K = K 3 h := dwp_size_of Try.sizeOf99
theorem rs99 {F : Fr} {S : Hp} : rval Try.prog F (sizeOf 99) S = some 3 := rval_size Try.sizeOf99
theorem ag99 {F : Fr} {h : Hp} {K : Bool → Hp → Prop} : dwp Try.prog F (isAgg 99) h K = K true h := dwp_agg_of Try.isAgg99
theorem ra99 {F : Fr} {S : Hp} : rval Try.prog F (isAgg 99) S = some true := rval_agg Try.isAgg99
theorem ze99 {F : Fr} {h : Hp} {K : Value → Hp → Prop} : dwp Try.prog F (zeroValue 99) h K = K (Go.Value.agg #[Go.Value.slice none 0 0, Go.Value.slice none 0 0, Go.Value.slice none 0 0]) h := dwp_zero_of Try.zeroValue99
theorem rz99 {F : Fr} {S : Hp} : rval Try.prog F (zeroValue 99) S = some (Go.Value.agg #[Go.Value.slice none 0 0, Go.Value.slice none 0 0, Go.Value.slice none 0 0]) := rval_zero Try.zeroValue99
theorem un100 {F : Fr} {h : Hp} {K : TypeDesc → Hp → Prop} : dwp Try.prog F (underlying 100) h K = K (Go.TypeDesc.func #[3, 3, 3] #[99] false) h := by rw [dwp_underlying, Try.underlying100]; rfl
theorem ru100 {F : Fr} {S : Hp} : rval Try.prog F (underlying 100) S = some (Go.TypeDesc.func #[3, 3, 3] #[99] false) := rval_un Try.underlying100
theorem sz100 {F : Fr} {h : Hp} {K : Nat → Hp → Prop} : dwp Try.prog F (sizeOf 100) h K = K 1 h := dwp_size_of Try.sizeOf100
theorem rs100 {F : Fr} {S : Hp} : rval Try.prog F (sizeOf 100) S = some 1 := rval_size Try.sizeOf100
theorem ag100 {F : Fr} {h : Hp} {K : Bool → Hp → Prop} : dwp Try.prog F (isAgg 100) h K = K false h := dwp_agg_of Try.isAgg100
theorem ra100 {F : Fr} {S : Hp} : rval Try.prog F (isAgg 100) S = some false := rval_agg Try.isAgg100
theorem ze100 {F : Fr} {h : Hp} {K : Value → Hp → Prop} : dwp Try.prog F (zeroValue 100) h K = K Go.Value.nilFunc h := dwp_zero_of Try.zeroValue100
theorem rz100 {F : Fr} {S : Hp} : rval Try.prog F (zeroValue 100) S = some (Go.Value.nilFunc) := rval_zero Try.zeroValue100
theorem un101 {F : Fr} {h : Hp} {K : TypeDesc → Hp → Prop} : dwp Try.prog F (underlying 101) h K = K (Go.TypeDesc.struct #[{ name := "Place", type := 3, offset := 0, embedded := false, tag := "", pkgPath := "", byteOffset := 0 }, { name := "Grade", type := 3, offset := 1, embedded := false, tag := "", pkgPath := "", byteOffset := 8 }]) h := by rw [dwp_underlying, Try.underlying101]; rfl
theorem ru101 {F : Fr} {S : Hp} : rval Try.prog F (underlying 101) S = some (Go.TypeDesc.struct #[{ name := "Place", type := 3, offset := 0, embedded := false, tag := "", pkgPath := "", byteOffset := 0 }, { name := "Grade", type := 3, offset := 1, embedded := false, tag := "", pkgPath := "", byteOffset := 8 }]) := rval_un Try.underlying101
theorem sz101 {F : Fr} {h : Hp} {K : Nat → Hp → Prop} : dwp Try.prog F (sizeOf 101) h K = K 2 h := dwp_size_of Try.sizeOf101
theorem rs101 {F : Fr} {S : Hp} : rval Try.prog F (sizeOf 101) S = some 2 := rval_size Try.sizeOf101
theorem ag101 {F : Fr} {h : Hp} {K : Bool → Hp → Prop} : dwp Try.prog F (isAgg 101) h K = K true h := dwp_agg_of Try.isAgg101
theorem ra101 {F : Fr} {S : Hp} : rval Try.prog F (isAgg 101) S = some true := rval_agg Try.isAgg101
theorem ze101 {F : Fr} {h : Hp} {K : Value → Hp → Prop} : dwp Try.prog F (zeroValue 101) h K = K (Go.Value.agg #[Go.Value.int Go.IntKind.i64 0, Go.Value.int Go.IntKind.i64 0]) h := dwp_zero_of Try.zeroValue101
theorem rz101 {F : Fr} {S : Hp} : rval Try.prog F (zeroValue 101) S = some (Go.Value.agg #[Go.Value.int Go.IntKind.i64 0, Go.Value.int Go.IntKind.i64 0]) := rval_zero Try.zeroValue101
theorem un102 {F : Fr} {h : Hp} {K : TypeDesc → Hp → Prop} : dwp Try.prog F (underlying 102) h K = K (Go.TypeDesc.struct #[{ name := "Place", type := 3, offset := 0, embedded := false, tag := "", pkgPath := "", byteOffset := 0 }, { name := "Grade", type := 3, offset := 1, embedded := false, tag := "", pkgPath := "", byteOffset := 8 }]) h := by rw [dwp_underlying, Try.underlying102]; rfl
theorem ru102 {F : Fr} {S : Hp} : rval Try.prog F (underlying 102) S = some (Go.TypeDesc.struct #[{ name := "Place", type := 3, offset := 0, embedded := false, tag := "", pkgPath := "", byteOffset := 0 }, { name := "Grade", type := 3, offset := 1, embedded := false, tag := "", pkgPath := "", byteOffset := 8 }]) := rval_un Try.underlying102
theorem sz102 {F : Fr} {h : Hp} {K : Nat → Hp → Prop} : dwp Try.prog F (sizeOf 102) h K = K 2 h := dwp_size_of Try.sizeOf102
theorem rs102 {F : Fr} {S : Hp} : rval Try.prog F (sizeOf 102) S = some 2 := rval_size Try.sizeOf102
theorem ag102 {F : Fr} {h : Hp} {K : Bool → Hp → Prop} : dwp Try.prog F (isAgg 102) h K = K true h := dwp_agg_of Try.isAgg102
theorem ra102 {F : Fr} {S : Hp} : rval Try.prog F (isAgg 102) S = some true := rval_agg Try.isAgg102
theorem ze102 {F : Fr} {h : Hp} {K : Value → Hp → Prop} : dwp Try.prog F (zeroValue 102) h K = K (Go.Value.agg #[Go.Value.int Go.IntKind.i64 0, Go.Value.int Go.IntKind.i64 0]) h := dwp_zero_of Try.zeroValue102
theorem rz102 {F : Fr} {S : Hp} : rval Try.prog F (zeroValue 102) S = some (Go.Value.agg #[Go.Value.int Go.IntKind.i64 0, Go.Value.int Go.IntKind.i64 0]) := rval_zero Try.zeroValue102
theorem un103 {F : Fr} {h : Hp} {K : TypeDesc → Hp → Prop} : dwp Try.prog F (underlying 103) h K = K (Go.TypeDesc.func #[23, 23, 23] #[4] false) h := by rw [dwp_underlying, Try.underlying103]; rfl
theorem ru103 {F : Fr} {S : Hp} : rval Try.prog F (underlying 103) S = some (Go.TypeDesc.func #[23, 23, 23] #[4] false) := rval_un Try.underlying103
theorem sz103 {F : Fr} {h : Hp} {K : Nat → Hp → Prop} : dwp Try.prog F (sizeOf 103) h K = K 1 h := dwp_size_of Try.sizeOf103
theorem rs103 {F : Fr} {S : Hp} : rval Try.prog F (sizeOf 103) S = some 1 := rval_size Try.sizeOf103
theorem ag103 {F : Fr} {h : Hp} {K : Bool → Hp → Prop} : dwp Try.prog F (isAgg 103) h K = K false h := dwp_agg_of Try.isAgg103
theorem ra103 {F : Fr} {S : Hp} : rval Try.prog F (isAgg 103) S = some false := rval_agg Try.isAgg103
theorem ze103 {F : Fr} {h : Hp} {K : Value → Hp → Prop} : dwp Try.prog F (zeroValue 103) h K = K Go.Value.nilFunc h := dwp_zero_of Try.zeroValue103
theorem rz103 {F : Fr} {S : Hp} : rval Try.prog F (zeroValue 103) S = some (Go.Value.nilFunc) := rval_zero Try.zeroValue103
theorem un104 {F : Fr} {h : Hp} {K : TypeDesc → Hp → Prop} : dwp Try.prog F (underlying 104) h K = K (Go.TypeDesc.struct #[{ name := "BoltKind", type := 32, offset := 0, embedded := true, tag := "", pkgPath := "", byteOffset := 0 }]) h := by rw [dwp_underlying, Try.underlying104]; rfl
theorem ru104 {F : Fr} {S : Hp} : rval Try.prog F (underlying 104) S = some (Go.TypeDesc.struct #[{ name := "BoltKind", type := 32, offset := 0, embedded := true, tag := "", pkgPath := "", byteOffset := 0 }]) := rval_un Try.underlying104
theorem sz104 {F : Fr} {h : Hp} {K : Nat → Hp → Prop} : dwp Try.prog F (sizeOf 104) h K = K 13 h := dwp_size_of Try.sizeOf104
theorem rs104 {F : Fr} {S : Hp} : rval Try.prog F (sizeOf 104) S = some 13 := rval_size Try.sizeOf104
theorem ag104 {F : Fr} {h : Hp} {K : Bool → Hp → Prop} : dwp Try.prog F (isAgg 104) h K = K true h := dwp_agg_of Try.isAgg104
theorem ra104 {F : Fr} {S : Hp} : rval Try.prog F (isAgg 104) S = some true := rval_agg Try.isAgg104
theorem ze104 {F : Fr} {h : Hp} {K : Value → Hp → Prop} : dwp Try.prog F (zeroValue 104) h K = K (Go.Value.agg #[Go.Value.int Go.IntKind.i64 0, Go.Value.int Go.IntKind.i64 0, Go.Value.int Go.IntKind.i64 0, Go.Value.int Go.IntKind.i64 0, Go.Value.int Go.IntKind.i64 0, Go.Value.int Go.IntKind.i64 0, Go.Value.int Go.IntKind.i64 0, Go.Value.int Go.IntKind.i64 0, Go.Value.int Go.IntKind.i64 0, Go.Value.int Go.IntKind.i64 0, Go.Value.int Go.IntKind.i64 0, Go.Value.int Go.IntKind.i64 0, Go.Value.int Go.IntKind.i64 0]) h := dwp_zero_of Try.zeroValue104
theorem rz104 {F : Fr} {S : Hp} : rval Try.prog F (zeroValue 104) S = some (Go.Value.agg #[Go.Value.int Go.IntKind.i64 0, Go.Value.int Go.IntKind.i64 0, Go.Value.int Go.IntKind.i64 0, Go.Value.int Go.IntKind.i64 0, Go.Value.int Go.IntKind.i64 0, Go.Value.int Go.IntKind.i64 0, Go.Value.int Go.IntKind.i64 0, Go.Value.int Go.IntKind.i64 0, Go.Value.int Go.IntKind.i64 0, Go.Value.int Go.IntKind.i64 0, Go.Value.int Go.IntKind.i64 0, Go.Value.int Go.IntKind.i64 0, Go.Value.int Go.IntKind.i64 0]) := rval_zero Try.zeroValue104
theorem un105 {F : Fr} {h : Hp} {K : TypeDesc → Hp → Prop} : dwp Try.prog F (underlying 105) h K = K (Go.TypeDesc.struct #[{ name := "BoltKind", type := 32, offset := 0, embedded := true, tag := "", pkgPath := "", byteOffset := 0 }]) h := by rw [dwp_underlying, Try.underlying105]; rfl
theorem ru105 {F : Fr} {S : Hp} : rval Try.prog F (underlying 105) S = some (Go.TypeDesc.struct #[{ name := "BoltKind", type := 32, offset := 0, embedded := true, tag := "", pkgPath := "", byteOffset := 0 }]) := rval_un Try.underlying105
theorem sz105 {F : Fr} {h : Hp} {K : Nat → Hp → Prop} : dwp Try.prog F (sizeOf 105) h K = K 13 h := dwp_size_of Try.sizeOf105
theorem rs105 {F : Fr} {S : Hp} : rval Try.prog F (sizeOf 105) S = some 13 := rval_size Try.sizeOf105
theorem ag105 {F : Fr} {h : Hp} {K : Bool → Hp → Prop} : dwp Try.prog F (isAgg 105) h K = K true h := dwp_agg_of Try.isAgg105
theorem ra105 {F : Fr} {S : Hp} : rval Try.prog F (isAgg 105) S = some true := rval_agg Try.isAgg105
theorem ze105 {F : Fr} {h : Hp} {K : Value → Hp → Prop} : dwp Try.prog F (zeroValue 105) h K = K (Go.Value.agg #[Go.Value.int Go.IntKind.i64 0, Go.Value.int Go.IntKind.i64 0, Go.Value.int Go.IntKind.i64 0, Go.Value.int Go.IntKind.i64 0, Go.Value.int Go.IntKind.i64 0, Go.Value.int Go.IntKind.i64 0, Go.Value.int Go.IntKind.i64 0, Go.Value.int Go.IntKind.i64 0, Go.Value.int Go.IntKind.i64 0, Go.Value.int Go.IntKind.i64 0, Go.Value.int Go.IntKind.i64 0, Go.Value.int Go.IntKind.i64 0, Go.Value.int Go.IntKind.i64 0]) h := dwp_zero_of Try.zeroValue105
theorem rz105 {F : Fr} {S : Hp} : rval Try.prog F (zeroValue 105) S = some (Go.Value.agg #[Go.Value.int Go.IntKind.i64 0, Go.Value.int Go.IntKind.i64 0, Go.Value.int Go.IntKind.i64 0, Go.Value.int Go.IntKind.i64 0, Go.Value.int Go.IntKind.i64 0, Go.Value.int Go.IntKind.i64 0, Go.Value.int Go.IntKind.i64 0, Go.Value.int Go.IntKind.i64 0, Go.Value.int Go.IntKind.i64 0, Go.Value.int Go.IntKind.i64 0, Go.Value.int Go.IntKind.i64 0, Go.Value.int Go.IntKind.i64 0, Go.Value.int Go.IntKind.i64 0]) := rval_zero Try.zeroValue105
theorem un106 {F : Fr} {h : Hp} {K : TypeDesc → Hp → Prop} : dwp Try.prog F (underlying 106) h K = K (Go.TypeDesc.tuple #[105, 35]) h := by rw [dwp_underlying, Try.underlying106]; rfl
theorem ru106 {F : Fr} {S : Hp} : rval Try.prog F (underlying 106) S = some (Go.TypeDesc.tuple #[105, 35]) := rval_un Try.underlying106
theorem sz106 {F : Fr} {h : Hp} {K : Nat → Hp → Prop} : dwp Try.prog F (sizeOf 106) h K = K 1 h := dwp_size_of Try.sizeOf106
theorem rs106 {F : Fr} {S : Hp} : rval Try.prog F (sizeOf 106) S = some 1 := rval_size Try.sizeOf106
theorem ag106 {F : Fr} {h : Hp} {K : Bool → Hp → Prop} : dwp Try.prog F (isAgg 106) h K = K false h := dwp_agg_of Try.isAgg106
theorem ra106 {F : Fr} {S : Hp} : rval Try.prog F (isAgg 106) S = some false := rval_agg Try.isAgg106
theorem ze106 {F : Fr} {h : Hp} {K : Value → Hp → Prop} : dwp Try.prog F (zeroValue 106) h K = K (Go.Value.tuple #[Go.Value.agg #[Go.Value.int Go.IntKind.i64 0, Go.Value.int Go.IntKind.i64 0, Go.Value.int Go.IntKind.i64 0, Go.Value.int Go.IntKind.i64 0, Go.Value.int Go.IntKind.i64 0, Go.Value.int Go.IntKind.i64 0, Go.Value.int Go.IntKind.i64 0, Go.Value.int Go.IntKind.i64 0, Go.Value.int Go.IntKind.i64 0, Go.Value.int Go.IntKind.i64 0, Go.Value.int Go.IntKind.i64 0, Go.Value.int Go.IntKind.i64 0, Go.Value.int Go.IntKind.i64 0], Go.Value.int Go.IntKind.i64 0]) h := dwp_zero_of Try.zeroValue106
theorem rz106 {F : Fr} {S : Hp} : rval Try.prog F (zeroValue 106) S = some (Go.Value.tuple #[Go.Value.agg #[Go.Value.int Go.IntKind.i64 0, Go.Value.int Go.IntKind.i64 0, Go.Value.int Go.IntKind.i64 0, Go.Value.int Go.IntKind.i64 0, Go.Value.int Go.IntKind.i64 0, Go.Value.int Go.IntKind.i64 0, Go.Value.int Go.IntKind.i64 0, Go.Value.int Go.IntKind.i64 0, Go.Value.int Go.IntKind.i64 0, Go.Value.int Go.IntKind.i64 0, Go.Value.int Go.IntKind.i64 0, Go.Value.int Go.IntKind.i64 0, Go.Value.int Go.IntKind.i64 0], Go.Value.int Go.IntKind.i64 0]) := rval_zero Try.zeroValue106
theorem un107 {F : Fr} {h : Hp} {K : TypeDesc → Hp → Prop} : dwp Try.prog F (underlying 107) h K = K (Go.TypeDesc.func #[32, 167] #[105, 35] true) h := by rw [dwp_underlying, Try.underlying107]; rfl
theorem ru107 {F : Fr} {S : Hp} : rval Try.prog F (underlying 107) S = some (Go.TypeDesc.func #[32, 167] #[105, 35] true) := rval_un Try.underlying107
theorem sz107 {F : Fr} {h : Hp} {K : Nat → Hp → Prop} : dwp Try.prog F (sizeOf 107) h K = K 1 h := dwp_size_of Try.sizeOf107
theorem rs107 {F : Fr} {S : Hp} : rval Try.prog F (sizeOf 107) S = some 1 := rval_size Try.sizeOf107
theorem ag107 {F : Fr} {h : Hp} {K : Bool → Hp → Prop} : dwp Try.prog F (isAgg 107) h K = K false h := dwp_agg_of Try.isAgg107
theorem ra107 {F : Fr} {S : Hp} : rval Try.prog F (isAgg 107) S = some false := rval_agg Try.isAgg107
theorem ze107 {F : Fr} {h : Hp} {K : Value → Hp → Prop} : dwp Try.prog F (zeroValue 107) h K = K Go.Value.nilFunc h := dwp_zero_of Try.zeroValue107
theorem rz107 {F : Fr} {S : Hp} : rval Try.prog F (zeroValue 107) S = some (Go.Value.nilFunc) := rval_zero Try.zeroValue107
theorem un108 {F : Fr} {h : Hp} {K : TypeDesc → Hp → Prop} : dwp Try.prog F (underlying 108) h K = K (Go.TypeDesc.func #[30] #[4] false) h := by rw [dwp_underlying, Try.underlying108]; rfl
theorem ru108 {F : Fr} {S : Hp} : rval Try.prog F (underlying 108) S = some (Go.TypeDesc.func #[30] #[4] false) := rval_un Try.underlying108
theorem sz108 {F : Fr} {h : Hp} {K : Nat → Hp → Prop} : dwp Try.prog F (sizeOf 108) h K = K 1 h := dwp_size_of Try.sizeOf108
theorem rs108 {F : Fr} {S : Hp} : rval Try.prog F (sizeOf 108) S = some 1 := rval_size Try.sizeOf108
theorem ag108 {F : Fr} {h : Hp} {K : Bool → Hp → Prop} : dwp Try.prog F (isAgg 108) h K = K false h := dwp_agg_of Try.isAgg108
theorem ra108 {F : Fr} {S : Hp} : rval Try.prog F (isAgg 108) S = some false := rval_agg Try.isAgg108
theorem ze108 {F : Fr} {h : Hp} {K : Value → Hp → Prop} : dwp Try.prog F (zeroValue 108) h K = K Go.Value.nilFunc h := dwp_zero_of Try.zeroValue108
theorem rz108 {F : Fr} {S : Hp} : rval Try.prog F (zeroValue 108) S = some (Go.Value.nilFunc) := rval_zero Try.zeroValue108
theorem un109 {F : Fr} {h : Hp} {K : TypeDesc → Hp → Prop} : dwp Try.prog F (underlying 109) h K = K (Go.TypeDesc.func #[30, 3, 3] #[4] false) h := by rw [dwp_underlying, Try.underlying109]; rfl
theorem ru109 {F : Fr} {S : Hp} : rval Try.prog F (underlying 109) S = some (Go.TypeDesc.func #[30, 3, 3] #[4] false) := rval_un Try.underlying109
theorem sz109 {F : Fr} {h : Hp} {K : Nat → Hp → Prop} : dwp Try.prog F (sizeOf 109) h K = K 1 h := dwp_size_of Try.sizeOf109
theorem rs109 {F : Fr} {S : Hp} : rval Try.prog F (sizeOf 109) S = some 1 := rval_size Try.sizeOf109
theorem ag109 {F : Fr} {h : Hp} {K : Bool → Hp → Prop} : dwp Try.prog F (isAgg 109) h K = K false h := dwp_agg_of Try.isAgg109
theorem ra109 {F : Fr} {S : Hp} : rval Try.prog F (isAgg 109) S = some false := rval_agg Try.isAgg109
theorem ze109 {F : Fr} {h : Hp} {K : Value → Hp → Prop} : dwp Try.prog F (zeroValue 109) h K = K Go.Value.nilFunc h := dwp_zero_of Try.zeroValue109
theorem rz109 {F : Fr} {S : Hp} : rval Try.prog F (zeroValue 109) S = some (Go.Value.nilFunc) := rval_zero Try.zeroValue109
theorem un110 {F : Fr} {h : Hp} {K : TypeDesc → Hp → Prop} : dwp Try.prog F (underlying 110) h K = K (Go.TypeDesc.func #[30] #[30] false) h := by rw [dwp_underlying, Try.underlying110]; rfl
theorem ru110 {F : Fr} {S : Hp} : rval Try.prog F (underlying 110) S = some (Go.TypeDesc.func #[30] #[30] false) := rval_un Try.underlying110
theorem sz110 {F : Fr} {h : Hp} {K : Nat → Hp → Prop} : dwp Try.prog F (sizeOf 110) h K = K 1 h := dwp_size_of Try.sizeOf110
theorem rs110 {F : Fr} {S : Hp} : rval Try.prog F (sizeOf 110) S = some 1 := rval_size Try.sizeOf110
theorem ag110 {F : Fr} {h : Hp} {K : Bool → Hp → Prop} : dwp Try.prog F (isAgg 110) h K = K false h := dwp_agg_of Try.isAgg110
theorem ra110 {F : Fr} {S : Hp} : rval Try.prog F (isAgg 110) S = some false := rval_agg Try.isAgg110
theorem ze110 {F : Fr} {h : Hp} {K : Value → Hp → Prop} : dwp Try.prog F (zeroValue 110) h K = K Go.Value.nilFunc h := dwp_zero_of Try.zeroValue110
theorem rz110 {F : Fr} {S : Hp} : rval Try.prog F (zeroValue 110) S = some (Go.Value.nilFunc) := rval_zero Try.zeroValue110
theorem un111 {F : Fr} {h : Hp} {K : TypeDesc → Hp → Prop} : dwp Try.prog F (underlying 111) h K = K (Go.TypeDesc.func #[3, 3] #[3] false) h := by rw [dwp_underlying, Try.underlying111]; rfl
theorem ru111 {F : Fr} {S : Hp} : rval Try.prog F (underlying 111) S = some (Go.TypeDesc.func #[3, 3] #[3] false) := rval_un Try.underlying111
theorem sz111 {F : Fr} {h : Hp} {K : Nat → Hp → Prop} : dwp Try.prog F (sizeOf 111) h K = K 1 h := dwp_size_of Try.sizeOf111
theorem rs111 {F : Fr} {S : Hp} : rval Try.prog F (sizeOf 111) S = some 1 := rval_size Try.sizeOf111
theorem ag111 {F : Fr} {h : Hp} {K : Bool → Hp → Prop} : dwp Try.prog F (isAgg 111) h K = K false h := dwp_agg_of Try.isAgg111
theorem ra111 {F : Fr} {S : Hp} : rval Try.prog F (isAgg 111) S = some false := rval_agg Try.isAgg111
theorem ze111 {F : Fr} {h : Hp} {K : Value → Hp → Prop} : dwp Try.prog F (zeroValue 111) h K = K Go.Value.nilFunc h := dwp_zero_of Try.zeroValue111
theorem rz111 {F : Fr} {S : Hp} : rval Try.prog F (zeroValue 111) S = some (Go.Value.nilFunc) := rval_zero Try.zeroValue111
theorem un112 {F : Fr} {h : Hp} {K : TypeDesc → Hp → Prop} : dwp Try.prog F (underlying 112) h K = K (Go.TypeDesc.struct #[{ name := "ZoneCoat", type := 41, offset := 0, embedded := true, tag := "", pkgPath := "", byteOffset := 0 }, { name := "least", type := 3, offset := 4, embedded := false, tag := "", pkgPath := "acme/zone", byteOffset := 32 }, { name := "most", type := 3, offset := 5, embedded := false, tag := "", pkgPath := "acme/zone", byteOffset := 40 }]) h := by rw [dwp_underlying, Try.underlying112]; rfl
theorem ru112 {F : Fr} {S : Hp} : rval Try.prog F (underlying 112) S = some (Go.TypeDesc.struct #[{ name := "ZoneCoat", type := 41, offset := 0, embedded := true, tag := "", pkgPath := "", byteOffset := 0 }, { name := "least", type := 3, offset := 4, embedded := false, tag := "", pkgPath := "acme/zone", byteOffset := 32 }, { name := "most", type := 3, offset := 5, embedded := false, tag := "", pkgPath := "acme/zone", byteOffset := 40 }]) := rval_un Try.underlying112
theorem sz112 {F : Fr} {h : Hp} {K : Nat → Hp → Prop} : dwp Try.prog F (sizeOf 112) h K = K 6 h := dwp_size_of Try.sizeOf112
theorem rs112 {F : Fr} {S : Hp} : rval Try.prog F (sizeOf 112) S = some 6 := rval_size Try.sizeOf112
theorem ag112 {F : Fr} {h : Hp} {K : Bool → Hp → Prop} : dwp Try.prog F (isAgg 112) h K = K true h := dwp_agg_of Try.isAgg112
theorem ra112 {F : Fr} {S : Hp} : rval Try.prog F (isAgg 112) S = some true := rval_agg Try.isAgg112
theorem ze112 {F : Fr} {h : Hp} {K : Value → Hp → Prop} : dwp Try.prog F (zeroValue 112) h K = K (Go.Value.agg #[Go.Value.int Go.IntKind.i64 0, Go.Value.int Go.IntKind.i64 0, Go.Value.int Go.IntKind.i64 0, Go.Value.int Go.IntKind.i64 0, Go.Value.int Go.IntKind.i64 0, Go.Value.int Go.IntKind.i64 0]) h := dwp_zero_of Try.zeroValue112
theorem rz112 {F : Fr} {S : Hp} : rval Try.prog F (zeroValue 112) S = some (Go.Value.agg #[Go.Value.int Go.IntKind.i64 0, Go.Value.int Go.IntKind.i64 0, Go.Value.int Go.IntKind.i64 0, Go.Value.int Go.IntKind.i64 0, Go.Value.int Go.IntKind.i64 0, Go.Value.int Go.IntKind.i64 0]) := rval_zero Try.zeroValue112
theorem un113 {F : Fr} {h : Hp} {K : TypeDesc → Hp → Prop} : dwp Try.prog F (underlying 113) h K = K (Go.TypeDesc.struct #[{ name := "ZoneCoat", type := 41, offset := 0, embedded := true, tag := "", pkgPath := "", byteOffset := 0 }, { name := "least", type := 3, offset := 4, embedded := false, tag := "", pkgPath := "acme/zone", byteOffset := 32 }, { name := "most", type := 3, offset := 5, embedded := false, tag := "", pkgPath := "acme/zone", byteOffset := 40 }]) h := by rw [dwp_underlying, Try.underlying113]; rfl
theorem ru113 {F : Fr} {S : Hp} : rval Try.prog F (underlying 113) S = some (Go.TypeDesc.struct #[{ name := "ZoneCoat", type := 41, offset := 0, embedded := true, tag := "", pkgPath := "", byteOffset := 0 }, { name := "least", type := 3, offset := 4, embedded := false, tag := "", pkgPath := "acme/zone", byteOffset := 32 }, { name := "most", type := 3, offset := 5, embedded := false, tag := "", pkgPath := "acme/zone", byteOffset := 40 }]) := rval_un Try.underlying113
theorem sz113 {F : Fr} {h : Hp} {K : Nat → Hp → Prop} : dwp Try.prog F (sizeOf 113) h K = K 6 h := dwp_size_of Try.sizeOf113
theorem rs113 {F : Fr} {S : Hp} : rval Try.prog F (sizeOf 113) S = some 6 := rval_size Try.sizeOf113
theorem ag113 {F : Fr} {h : Hp} {K : Bool → Hp → Prop} : dwp Try.prog F (isAgg 113) h K = K true h := dwp_agg_of Try.isAgg113
theorem ra113 {F : Fr} {S : Hp} : rval Try.prog F (isAgg 113) S = some true := rval_agg Try.isAgg113
theorem ze113 {F : Fr} {h : Hp} {K : Value → Hp → Prop} : dwp Try.prog F (zeroValue 113) h K = K (Go.Value.agg #[Go.Value.int Go.IntKind.i64 0, Go.Value.int Go.IntKind.i64 0, Go.Value.int Go.IntKind.i64 0, Go.Value.int Go.IntKind.i64 0, Go.Value.int Go.IntKind.i64 0, Go.Value.int Go.IntKind.i64 0]) h := dwp_zero_of Try.zeroValue113
theorem rz113 {F : Fr} {S : Hp} : rval Try.prog F (zeroValue 113) S = some (Go.Value.agg #[Go.Value.int Go.IntKind.i64 0, Go.Value.int Go.IntKind.i64 0, Go.Value.int Go.IntKind.i64 0, Go.Value.int Go.IntKind.i64 0, Go.Value.int Go.IntKind.i64 0, Go.Value.int Go.IntKind.i64 0]) := rval_zero Try.zeroValue113
theorem un114 {F : Fr} {h : Hp} {K : TypeDesc → Hp → Prop} : dwp Try.prog F (underlying 114) h K = K (Go.TypeDesc.tuple #[113, 35]) h := by rw [dwp_underlying, Try.underlying114]; rfl
theorem ru114 {F : Fr} {S : Hp} : rval Try.prog F (underlying 114) S = some (Go.TypeDesc.tuple #[113, 35]) := rval_un Try.underlying114
theorem sz114 {F : Fr} {h : Hp} {K : Nat → Hp → Prop} : dwp Try.prog F (sizeOf 114) h K = K 1 h := dwp_size_of Try.sizeOf114
theorem rs114 {F : Fr} {S : Hp} : rval Try.prog F (sizeOf 114) S = some 1 := rval_size Try.sizeOf114
theorem ag114 {F : Fr} {h : Hp} {K : Bool → Hp → Prop} : dwp Try.prog F (isAgg 114) h K = K false h := dwp_agg_of Try.isAgg114
theorem ra114 {F : Fr} {S : Hp} : rval Try.prog F (isAgg 114) S = some false := rval_agg Try.isAgg114
theorem ze114 {F : Fr} {h : Hp} {K : Value → Hp → Prop} : dwp Try.prog F (zeroValue 114) h K = K (Go.Value.tuple #[Go.Value.agg #[Go.Value.int Go.IntKind.i64 0, Go.Value.int Go.IntKind.i64 0, Go.Value.int Go.IntKind.i64 0, Go.Value.int Go.IntKind.i64 0, Go.Value.int Go.IntKind.i64 0, Go.Value.int Go.IntKind.i64 0], Go.Value.int Go.IntKind.i64 0]) h := dwp_zero_of Try.zeroValue114
theorem rz114 {F : Fr} {S : Hp} : rval Try.prog F (zeroValue 114) S = some (Go.Value.tuple #[Go.Value.agg #[Go.Value.int Go.IntKind.i64 0, Go.Value.int Go.IntKind.i64 0, Go.Value.int Go.IntKind.i64 0, Go.Value.int Go.IntKind.i64 0, Go.Value.int Go.IntKind.i64 0, Go.Value.int Go.IntKind.i64 0], Go.Value.int Go.IntKind.i64 0]) := rval_zero Try.zeroValue114
theorem un115 {F : Fr} {h : Hp} {K : TypeDesc → Hp → Prop} : dwp Try.prog F (underlying 115) h K = K (Go.TypeDesc.func #[30, 4, 41] #[113, 35] false) h := by rw [dwp_underlying, Try.underlying115]; rfl
theorem ru115 {F : Fr} {S : Hp} : rval Try.prog F (underlying 115) S = some (Go.TypeDesc.func #[30, 4, 41] #[113, 35] false) := rval_un Try.underlying115
theorem sz115 {F : Fr} {h : Hp} {K : Nat → Hp → Prop} : dwp Try.prog F (sizeOf 115) h K = K 1 h := dwp_size_of Try.sizeOf115
theorem rs115 {F : Fr} {S : Hp} : rval Try.prog F (sizeOf 115) S = some 1 := rval_size Try.sizeOf115
theorem ag115 {F : Fr} {h : Hp} {K : Bool → Hp → Prop} : dwp Try.prog F (isAgg 115) h K = K false h := dwp_agg_of Try.isAgg115
theorem ra115 {F : Fr} {S : Hp} : rval Try.prog F (isAgg 115) S = some false := rval_agg Try.isAgg115
theorem ze115 {F : Fr} {h : Hp} {K : Value → Hp → Prop} : dwp Try.prog F (zeroValue 115) h K = K Go.Value.nilFunc h := dwp_zero_of Try.zeroValue115
theorem rz115 {F : Fr} {S : Hp} : rval Try.prog F (zeroValue 115) S = some (Go.Value.nilFunc) := rval_zero Try.zeroValue115
theorem un116 {F : Fr} {h : Hp} {K : TypeDesc → Hp → Prop} : dwp Try.prog F (underlying 116) h K = K (Go.TypeDesc.func #[3] #[3] false) h := by rw [dwp_underlying, Try.underlying116]; rfl
theorem ru116 {F : Fr} {S : Hp} : rval Try.prog F (underlying 116) S = some (Go.TypeDesc.func #[3] #[3] false) := rval_un Try.underlying116
theorem sz116 {F : Fr} {h : Hp} {K : Nat → Hp → Prop} : dwp Try.prog F (sizeOf 116) h K = K 1 h := dwp_size_of Try.sizeOf116
theorem rs116 {F : Fr} {S : Hp} : rval Try.prog F (sizeOf 116) S = some 1 := rval_size Try.sizeOf116
theorem ag116 {F : Fr} {h : Hp} {K : Bool → Hp → Prop} : dwp Try.prog F (isAgg 116) h K = K false h := dwp_agg_of Try.isAgg116
theorem ra116 {F : Fr} {S : Hp} : rval Try.prog F (isAgg 116) S = some false := rval_agg Try.isAgg116
theorem ze116 {F : Fr} {h : Hp} {K : Value → Hp → Prop} : dwp Try.prog F (zeroValue 116) h K = K Go.Value.nilFunc h := dwp_zero_of Try.zeroValue116
theorem rz116 {F : Fr} {S : Hp} : rval Try.prog F (zeroValue 116) S = some (Go.Value.nilFunc) := rval_zero Try.zeroValue116
theorem un117 {F : Fr} {h : Hp} {K : TypeDesc → Hp → Prop} : dwp Try.prog F (underlying 117) h K = K (Go.TypeDesc.func #[30, 30, 30] #[3, 35] false) h := by rw [dwp_underlying, Try.underlying117]; rfl
theorem ru117 {F : Fr} {S : Hp} : rval Try.prog F (underlying 117) S = some (Go.TypeDesc.func #[30, 30, 30] #[3, 35] false) := rval_un Try.underlying117
theorem sz117 {F : Fr} {h : Hp} {K : Nat → Hp → Prop} : dwp Try.prog F (sizeOf 117) h K = K 1 h := dwp_size_of Try.sizeOf117
theorem rs117 {F : Fr} {S : Hp} : rval Try.prog F (sizeOf 117) S = some 1 := rval_size Try.sizeOf117
theorem ag117 {F : Fr} {h : Hp} {K : Bool → Hp → Prop} : dwp Try.prog F (isAgg 117) h K = K false h := dwp_agg_of Try.isAgg117
theorem ra117 {F : Fr} {S : Hp} : rval Try.prog F (isAgg 117) S = some false := rval_agg Try.isAgg117
theorem ze117 {F : Fr} {h : Hp} {K : Value → Hp → Prop} : dwp Try.prog F (zeroValue 117) h K = K Go.Value.nilFunc h := dwp_zero_of Try.zeroValue117
theorem rz117 {F : Fr} {S : Hp} : rval Try.prog F (zeroValue 117) S = some (Go.Value.nilFunc) := rval_zero Try.zeroValue117
theorem un118 {F : Fr} {h : Hp} {K : TypeDesc → Hp → Prop} : dwp Try.prog F (underlying 118) h K = K (Go.TypeDesc.func #[49] #[30] false) h := by rw [dwp_underlying, Try.underlying118]; rfl
theorem ru118 {F : Fr} {S : Hp} : rval Try.prog F (underlying 118) S = some (Go.TypeDesc.func #[49] #[30] false) := rval_un Try.underlying118
theorem sz118 {F : Fr} {h : Hp} {K : Nat → Hp → Prop} : dwp Try.prog F (sizeOf 118) h K = K 1 h := dwp_size_of Try.sizeOf118
theorem rs118 {F : Fr} {S : Hp} : rval Try.prog F (sizeOf 118) S = some 1 := rval_size Try.sizeOf118
theorem ag118 {F : Fr} {h : Hp} {K : Bool → Hp → Prop} : dwp Try.prog F (isAgg 118) h K = K false h := dwp_agg_of Try.isAgg118
theorem ra118 {F : Fr} {S : Hp} : rval Try.prog F (isAgg 118) S = some false := rval_agg Try.isAgg118
theorem ze118 {F : Fr} {h : Hp} {K : Value → Hp → Prop} : dwp Try.prog F (zeroValue 118) h K = K Go.Value.nilFunc h := dwp_zero_of Try.zeroValue118
theorem rz118 {F : Fr} {S : Hp} : rval Try.prog F (zeroValue 118) S = some (Go.Value.nilFunc) := rval_zero Try.zeroValue118
theorem un119 {F : Fr} {h : Hp} {K : TypeDesc → Hp → Prop} : dwp Try.prog F (underlying 119) h K = K (Go.TypeDesc.struct #[{ name := "ThreadForm", type := 56, offset := 0, embedded := true, tag := "", pkgPath := "", byteOffset := 0 }]) h := by rw [dwp_underlying, Try.underlying119]; rfl
theorem ru119 {F : Fr} {S : Hp} : rval Try.prog F (underlying 119) S = some (Go.TypeDesc.struct #[{ name := "ThreadForm", type := 56, offset := 0, embedded := true, tag := "", pkgPath := "", byteOffset := 0 }]) := rval_un Try.underlying119
theorem sz119 {F : Fr} {h : Hp} {K : Nat → Hp → Prop} : dwp Try.prog F (sizeOf 119) h K = K 8 h := dwp_size_of Try.sizeOf119
theorem rs119 {F : Fr} {S : Hp} : rval Try.prog F (sizeOf 119) S = some 8 := rval_size Try.sizeOf119
theorem ag119 {F : Fr} {h : Hp} {K : Bool → Hp → Prop} : dwp Try.prog F (isAgg 119) h K = K true h := dwp_agg_of Try.isAgg119
theorem ra119 {F : Fr} {S : Hp} : rval Try.prog F (isAgg 119) S = some true := rval_agg Try.isAgg119
theorem ze119 {F : Fr} {h : Hp} {K : Value → Hp → Prop} : dwp Try.prog F (zeroValue 119) h K = K (Go.Value.agg #[Go.Value.int Go.IntKind.i64 0, Go.Value.int Go.IntKind.i64 0, Go.Value.int Go.IntKind.i64 0, Go.Value.int Go.IntKind.i64 0, Go.Value.int Go.IntKind.i64 0, Go.Value.int Go.IntKind.i64 0, Go.Value.bool false, Go.Value.int Go.IntKind.i64 0]) h := dwp_zero_of Try.zeroValue119
theorem rz119 {F : Fr} {S : Hp} : rval Try.prog F (zeroValue 119) S = some (Go.Value.agg #[Go.Value.int Go.IntKind.i64 0, Go.Value.int Go.IntKind.i64 0, Go.Value.int Go.IntKind.i64 0, Go.Value.int Go.IntKind.i64 0, Go.Value.int Go.IntKind.i64 0, Go.Value.int Go.IntKind.i64 0, Go.Value.bool false, Go.Value.int Go.IntKind.i64 0]) := rval_zero Try.zeroValue119
theorem un120 {F : Fr} {h : Hp} {K : TypeDesc → Hp → Prop} : dwp Try.prog F (underlying 120) h K = K (Go.TypeDesc.struct #[{ name := "ThreadForm", type := 56, offset := 0, embedded := true, tag := "", pkgPath := "", byteOffset := 0 }]) h := by rw [dwp_underlying, Try.underlying120]; rfl
theorem ru120 {F : Fr} {S : Hp} : rval Try.prog F (underlying 120) S = some (Go.TypeDesc.struct #[{ name := "ThreadForm", type := 56, offset := 0, embedded := true, tag := "", pkgPath := "", byteOffset := 0 }]) := rval_un Try.underlying120
theorem sz120 {F : Fr} {h : Hp} {K : Nat → Hp → Prop} : dwp Try.prog F (sizeOf 120) h K = K 8 h := dwp_size_of Try.sizeOf120
theorem rs120 {F : Fr} {S : Hp} : rval Try.prog F (sizeOf 120) S = some 8 := rval_size Try.sizeOf120
theorem ag120 {F : Fr} {h : Hp} {K : Bool → Hp → Prop} : dwp Try.prog F (isAgg 120) h K = K true h := dwp_agg_of Try.isAgg120
theorem ra120 {F : Fr} {S : Hp} : rval Try.prog F (isAgg 120) S = some true := rval_agg Try.isAgg120
theorem ze120 {F : Fr} {h : Hp} {K : Value → Hp → Prop} : dwp Try.prog F (zeroValue 120) h K = K (Go.Value.agg #[Go.Value.int Go.IntKind.i64 0, Go.Value.int Go.IntKind.i64 0, Go.Value.int Go.IntKind.i64 0, Go.Value.int Go.IntKind.i64 0, Go.Value.int Go.IntKind.i64 0, Go.Value.int Go.IntKind.i64 0, Go.Value.bool false, Go.Value.int Go.IntKind.i64 0]) h := dwp_zero_of Try.zeroValue120
theorem rz120 {F : Fr} {S : Hp} : rval Try.prog F (zeroValue 120) S = some (Go.Value.agg #[Go.Value.int Go.IntKind.i64 0, Go.Value.int Go.IntKind.i64 0, Go.Value.int Go.IntKind.i64 0, Go.Value.int Go.IntKind.i64 0, Go.Value.int Go.IntKind.i64 0, Go.Value.int Go.IntKind.i64 0, Go.Value.bool false, Go.Value.int Go.IntKind.i64 0]) := rval_zero Try.zeroValue120
theorem un121 {F : Fr} {h : Hp} {K : TypeDesc → Hp → Prop} : dwp Try.prog F (underlying 121) h K = K (Go.TypeDesc.tuple #[120, 35]) h := by rw [dwp_underlying, Try.underlying121]; rfl
theorem ru121 {F : Fr} {S : Hp} : rval Try.prog F (underlying 121) S = some (Go.TypeDesc.tuple #[120, 35]) := rval_un Try.underlying121
theorem sz121 {F : Fr} {h : Hp} {K : Nat → Hp → Prop} : dwp Try.prog F (sizeOf 121) h K = K 1 h := dwp_size_of Try.sizeOf121
theorem rs121 {F : Fr} {S : Hp} : rval Try.prog F (sizeOf 121) S = some 1 := rval_size Try.sizeOf121
theorem ag121 {F : Fr} {h : Hp} {K : Bool → Hp → Prop} : dwp Try.prog F (isAgg 121) h K = K false h := dwp_agg_of Try.isAgg121
theorem ra121 {F : Fr} {S : Hp} : rval Try.prog F (isAgg 121) S = some false := rval_agg Try.isAgg121
theorem ze121 {F : Fr} {h : Hp} {K : Value → Hp → Prop} : dwp Try.prog F (zeroValue 121) h K = K (Go.Value.tuple #[Go.Value.agg #[Go.Value.int Go.IntKind.i64 0, Go.Value.int Go.IntKind.i64 0, Go.Value.int Go.IntKind.i64 0, Go.Value.int Go.IntKind.i64 0, Go.Value.int Go.IntKind.i64 0, Go.Value.int Go.IntKind.i64 0, Go.Value.bool false, Go.Value.int Go.IntKind.i64 0], Go.Value.int Go.IntKind.i64 0]) h := dwp_zero_of Try.zeroValue121
theorem rz121 {F : Fr} {S : Hp} : rval Try.prog F (zeroValue 121) S = some (Go.Value.tuple #[Go.Value.agg #[Go.Value.int Go.IntKind.i64 0, Go.Value.int Go.IntKind.i64 0, Go.Value.int Go.IntKind.i64 0, Go.Value.int Go.IntKind.i64 0, Go.Value.int Go.IntKind.i64 0, Go.Value.int Go.IntKind.i64 0, Go.Value.bool false, Go.Value.int Go.IntKind.i64 0], Go.Value.int Go.IntKind.i64 0]) := rval_zero Try.zeroValue121
theorem un122 {F : Fr} {h : Hp} {K : TypeDesc → Hp → Prop} : dwp Try.prog F (underlying 122) h K = K (Go.TypeDesc.func #[56] #[120, 35] false) h := by rw [dwp_underlying, Try.underlying122]; rfl
theorem ru122 {F : Fr} {S : Hp} : rval Try.prog F (underlying 122) S = some (Go.TypeDesc.func #[56] #[120, 35] false) := rval_un Try.underlying122
theorem sz122 {F : Fr} {h : Hp} {K : Nat → Hp → Prop} : dwp Try.prog F (sizeOf 122) h K = K 1 h := dwp_size_of Try.sizeOf122
theorem rs122 {F : Fr} {S : Hp} : rval Try.prog F (sizeOf 122) S = some 1 := rval_size Try.sizeOf122
theorem ag122 {F : Fr} {h : Hp} {K : Bool → Hp → Prop} : dwp Try.prog F (isAgg 122) h K = K false h := dwp_agg_of Try.isAgg122
theorem ra122 {F : Fr} {S : Hp} : rval Try.prog F (isAgg 122) S = some false := rval_agg Try.isAgg122
theorem ze122 {F : Fr} {h : Hp} {K : Value → Hp → Prop} : dwp Try.prog F (zeroValue 122) h K = K Go.Value.nilFunc h := dwp_zero_of Try.zeroValue122
theorem rz122 {F : Fr} {S : Hp} : rval Try.prog F (zeroValue 122) S = some (Go.Value.nilFunc) := rval_zero Try.zeroValue122
theorem un123 {F : Fr} {h : Hp} {K : TypeDesc → Hp → Prop} : dwp Try.prog F (underlying 123) h K = K (Go.TypeDesc.func #[3, 3, 80] #[4] true) h := by rw [dwp_underlying, Try.underlying123]; rfl
theorem ru123 {F : Fr} {S : Hp} : rval Try.prog F (underlying 123) S = some (Go.TypeDesc.func #[3, 3, 80] #[4] true) := rval_un Try.underlying123
theorem sz123 {F : Fr} {h : Hp} {K : Nat → Hp → Prop} : dwp Try.prog F (sizeOf 123) h K = K 1 h := dwp_size_of Try.sizeOf123
theorem rs123 {F : Fr} {S : Hp} : rval Try.prog F (sizeOf 123) S = some 1 := rval_size Try.sizeOf123
theorem ag123 {F : Fr} {h : Hp} {K : Bool → Hp → Prop} : dwp Try.prog F (isAgg 123) h K = K false h := dwp_agg_of Try.isAgg123
theorem ra123 {F : Fr} {S : Hp} : rval Try.prog F (isAgg 123) S = some false := rval_agg Try.isAgg123
theorem ze123 {F : Fr} {h : Hp} {K : Value → Hp → Prop} : dwp Try.prog F (zeroValue 123) h K = K Go.Value.nilFunc h := dwp_zero_of Try.zeroValue123
theorem rz123 {F : Fr} {S : Hp} : rval Try.prog F (zeroValue 123) S = some (Go.Value.nilFunc) := rval_zero Try.zeroValue123
theorem un124 {F : Fr} {h : Hp} {K : TypeDesc → Hp → Prop} : dwp Try.prog F (underlying 124) h K = K (Go.TypeDesc.func #[3, 3] #[39] false) h := by rw [dwp_underlying, Try.underlying124]; rfl
theorem ru124 {F : Fr} {S : Hp} : rval Try.prog F (underlying 124) S = some (Go.TypeDesc.func #[3, 3] #[39] false) := rval_un Try.underlying124
theorem sz124 {F : Fr} {h : Hp} {K : Nat → Hp → Prop} : dwp Try.prog F (sizeOf 124) h K = K 1 h := dwp_size_of Try.sizeOf124
theorem rs124 {F : Fr} {S : Hp} : rval Try.prog F (sizeOf 124) S = some 1 := rval_size Try.sizeOf124
theorem ag124 {F : Fr} {h : Hp} {K : Bool → Hp → Prop} : dwp Try.prog F (isAgg 124) h K = K false h := dwp_agg_of Try.isAgg124
theorem ra124 {F : Fr} {S : Hp} : rval Try.prog F (isAgg 124) S = some false := rval_agg Try.isAgg124
theorem ze124 {F : Fr} {h : Hp} {K : Value → Hp → Prop} : dwp Try.prog F (zeroValue 124) h K = K Go.Value.nilFunc h := dwp_zero_of Try.zeroValue124
theorem rz124 {F : Fr} {S : Hp} : rval Try.prog F (zeroValue 124) S = some (Go.Value.nilFunc) := rval_zero Try.zeroValue124
theorem un125 {F : Fr} {h : Hp} {K : TypeDesc → Hp → Prop} : dwp Try.prog F (underlying 125) h K = K (Go.TypeDesc.func #[] #[3] false) h := by rw [dwp_underlying, Try.underlying125]; rfl
theorem ru125 {F : Fr} {S : Hp} : rval Try.prog F (underlying 125) S = some (Go.TypeDesc.func #[] #[3] false) := rval_un Try.underlying125
theorem sz125 {F : Fr} {h : Hp} {K : Nat → Hp → Prop} : dwp Try.prog F (sizeOf 125) h K = K 1 h := dwp_size_of Try.sizeOf125
theorem rs125 {F : Fr} {S : Hp} : rval Try.prog F (sizeOf 125) S = some 1 := rval_size Try.sizeOf125
theorem ag125 {F : Fr} {h : Hp} {K : Bool → Hp → Prop} : dwp Try.prog F (isAgg 125) h K = K false h := dwp_agg_of Try.isAgg125
theorem ra125 {F : Fr} {S : Hp} : rval Try.prog F (isAgg 125) S = some false := rval_agg Try.isAgg125
theorem ze125 {F : Fr} {h : Hp} {K : Value → Hp → Prop} : dwp Try.prog F (zeroValue 125) h K = K Go.Value.nilFunc h := dwp_zero_of Try.zeroValue125
theorem rz125 {F : Fr} {S : Hp} : rval Try.prog F (zeroValue 125) S = some (Go.Value.nilFunc) := rval_zero Try.zeroValue125
theorem un126 {F : Fr} {h : Hp} {K : TypeDesc → Hp → Prop} : dwp Try.prog F (underlying 126) h K = K (Go.TypeDesc.func #[56] #[35] false) h := by rw [dwp_underlying, Try.underlying126]; rfl
theorem ru126 {F : Fr} {S : Hp} : rval Try.prog F (underlying 126) S = some (Go.TypeDesc.func #[56] #[35] false) := rval_un Try.underlying126
theorem sz126 {F : Fr} {h : Hp} {K : Nat → Hp → Prop} : dwp Try.prog F (sizeOf 126) h K = K 1 h := dwp_size_of Try.sizeOf126
theorem rs126 {F : Fr} {S : Hp} : rval Try.prog F (sizeOf 126) S = some 1 := rval_size Try.sizeOf126
theorem ag126 {F : Fr} {h : Hp} {K : Bool → Hp → Prop} : dwp Try.prog F (isAgg 126) h K = K false h := dwp_agg_of Try.isAgg126
theorem ra126 {F : Fr} {S : Hp} : rval Try.prog F (isAgg 126) S = some false := rval_agg Try.isAgg126
theorem ze126 {F : Fr} {h : Hp} {K : Value → Hp → Prop} : dwp Try.prog F (zeroValue 126) h K = K Go.Value.nilFunc h := dwp_zero_of Try.zeroValue126
theorem rz126 {F : Fr} {S : Hp} : rval Try.prog F (zeroValue 126) S = some (Go.Value.nilFunc) := rval_zero Try.zeroValue126
theorem un127 {F : Fr} {h : Hp} {K : TypeDesc → Hp → Prop} : dwp Try.prog F (underlying 127) h K = K (Go.TypeDesc.func #[56] #[4] false) h := by rw [dwp_underlying, Try.underlying127]; rfl
theorem ru127 {F : Fr} {S : Hp} : rval Try.prog F (underlying 127) S = some (Go.TypeDesc.func #[56] #[4] false) := rval_un Try.underlying127
theorem sz127 {F : Fr} {h : Hp} {K : Nat → Hp → Prop} : dwp Try.prog F (sizeOf 127) h K = K 1 h := dwp_size_of Try.sizeOf127
theorem rs127 {F : Fr} {S : Hp} : rval Try.prog F (sizeOf 127) S = some 1 := rval_size Try.sizeOf127
theorem ag127 {F : Fr} {h : Hp} {K : Bool → Hp → Prop} : dwp Try.prog F (isAgg 127) h K = K false h := dwp_agg_of Try.isAgg127
theorem ra127 {F : Fr} {S : Hp} : rval Try.prog F (isAgg 127) S = some false := rval_agg Try.isAgg127
theorem ze127 {F : Fr} {h : Hp} {K : Value → Hp → Prop} : dwp Try.prog F (zeroValue 127) h K = K Go.Value.nilFunc h := dwp_zero_of Try.zeroValue127
theorem rz127 {F : Fr} {S : Hp} : rval Try.prog F (zeroValue 127) S = some (Go.Value.nilFunc) := rval_zero Try.zeroValue127
theorem un128 {F : Fr} {h : Hp} {K : TypeDesc → Hp → Prop} : dwp Try.prog F (underlying 128) h K = K (Go.TypeDesc.func #[30, 3] #[3] false) h := by rw [dwp_underlying, Try.underlying128]; rfl
theorem ru128 {F : Fr} {S : Hp} : rval Try.prog F (underlying 128) S = some (Go.TypeDesc.func #[30, 3] #[3] false) := rval_un Try.underlying128
theorem sz128 {F : Fr} {h : Hp} {K : Nat → Hp → Prop} : dwp Try.prog F (sizeOf 128) h K = K 1 h := dwp_size_of Try.sizeOf128
theorem rs128 {F : Fr} {S : Hp} : rval Try.prog F (sizeOf 128) S = some 1 := rval_size Try.sizeOf128
theorem ag128 {F : Fr} {h : Hp} {K : Bool → Hp → Prop} : dwp Try.prog F (isAgg 128) h K = K false h := dwp_agg_of Try.isAgg128
theorem ra128 {F : Fr} {S : Hp} : rval Try.prog F (isAgg 128) S = some false := rval_agg Try.isAgg128
theorem ze128 {F : Fr} {h : Hp} {K : Value → Hp → Prop} : dwp Try.prog F (zeroValue 128) h K = K Go.Value.nilFunc h := dwp_zero_of Try.zeroValue128
theorem rz128 {F : Fr} {S : Hp} : rval Try.prog F (zeroValue 128) S = some (Go.Value.nilFunc) := rval_zero Try.zeroValue128
theorem un129 {F : Fr} {h : Hp} {K : TypeDesc → Hp → Prop} : dwp Try.prog F (underlying 129) h K = K (Go.TypeDesc.struct #[{ name := "Span", type := 30, offset := 0, embedded := true, tag := "", pkgPath := "", byteOffset := 0 }]) h := by rw [dwp_underlying, Try.underlying129]; rfl
theorem ru129 {F : Fr} {S : Hp} : rval Try.prog F (underlying 129) S = some (Go.TypeDesc.struct #[{ name := "Span", type := 30, offset := 0, embedded := true, tag := "", pkgPath := "", byteOffset := 0 }]) := rval_un Try.underlying129
theorem sz129 {F : Fr} {h : Hp} {K : Nat → Hp → Prop} : dwp Try.prog F (sizeOf 129) h K = K 2 h := dwp_size_of Try.sizeOf129
theorem rs129 {F : Fr} {S : Hp} : rval Try.prog F (sizeOf 129) S = some 2 := rval_size Try.sizeOf129
theorem ag129 {F : Fr} {h : Hp} {K : Bool → Hp → Prop} : dwp Try.prog F (isAgg 129) h K = K true h := dwp_agg_of Try.isAgg129
theorem ra129 {F : Fr} {S : Hp} : rval Try.prog F (isAgg 129) S = some true := rval_agg Try.isAgg129
theorem ze129 {F : Fr} {h : Hp} {K : Value → Hp → Prop} : dwp Try.prog F (zeroValue 129) h K = K (Go.Value.agg #[Go.Value.int Go.IntKind.i64 0, Go.Value.int Go.IntKind.i64 0]) h := dwp_zero_of Try.zeroValue129
theorem rz129 {F : Fr} {S : Hp} : rval Try.prog F (zeroValue 129) S = some (Go.Value.agg #[Go.Value.int Go.IntKind.i64 0, Go.Value.int Go.IntKind.i64 0]) := rval_zero Try.zeroValue129
theorem un130 {F : Fr} {h : Hp} {K : TypeDesc → Hp → Prop} : dwp Try.prog F (underlying 130) h K = K (Go.TypeDesc.struct #[{ name := "Span", type := 30, offset := 0, embedded := true, tag := "", pkgPath := "", byteOffset := 0 }]) h := by rw [dwp_underlying, Try.underlying130]; rfl
theorem ru130 {F : Fr} {S : Hp} : rval Try.prog F (underlying 130) S = some (Go.TypeDesc.struct #[{ name := "Span", type := 30, offset := 0, embedded := true, tag := "", pkgPath := "", byteOffset := 0 }]) := rval_un Try.underlying130
theorem sz130 {F : Fr} {h : Hp} {K : Nat → Hp → Prop} : dwp Try.prog F (sizeOf 130) h K = K 2 h := dwp_size_of Try.sizeOf130
theorem rs130 {F : Fr} {S : Hp} : rval Try.prog F (sizeOf 130) S = some 2 := rval_size Try.sizeOf130
theorem ag130 {F : Fr} {h : Hp} {K : Bool → Hp → Prop} : dwp Try.prog F (isAgg 130) h K = K true h := dwp_agg_of Try.isAgg130
theorem ra130 {F : Fr} {S : Hp} : rval Try.prog F (isAgg 130) S = some true := rval_agg Try.isAgg130
theorem ze130 {F : Fr} {h : Hp} {K : Value → Hp → Prop} : dwp Try.prog F (zeroValue 130) h K = K (Go.Value.agg #[Go.Value.int Go.IntKind.i64 0, Go.Value.int Go.IntKind.i64 0]) h := dwp_zero_of Try.zeroValue130
theorem rz130 {F : Fr} {S : Hp} : rval Try.prog F (zeroValue 130) S = some (Go.Value.agg #[Go.Value.int Go.IntKind.i64 0, Go.Value.int Go.IntKind.i64 0]) := rval_zero Try.zeroValue130
theorem un131 {F : Fr} {h : Hp} {K : TypeDesc → Hp → Prop} : dwp Try.prog F (underlying 131) h K = K (Go.TypeDesc.struct #[{ name := "ThreadForm", type := 56, offset := 0, embedded := true, tag := "", pkgPath := "", byteOffset := 0 }, { name := "heights", type := 130, offset := 8, embedded := true, tag := "", pkgPath := "acme/fit", byteOffset := 64 }]) h := by rw [dwp_underlying, Try.underlying131]; rfl
theorem ru131 {F : Fr} {S : Hp} : rval Try.prog F (underlying 131) S = some (Go.TypeDesc.struct #[{ name := "ThreadForm", type := 56, offset := 0, embedded := true, tag := "", pkgPath := "", byteOffset := 0 }, { name := "heights", type := 130, offset := 8, embedded := true, tag := "", pkgPath := "acme/fit", byteOffset := 64 }]) := rval_un Try.underlying131
theorem sz131 {F : Fr} {h : Hp} {K : Nat → Hp → Prop} : dwp Try.prog F (sizeOf 131) h K = K 10 h := dwp_size_of Try.sizeOf131
theorem rs131 {F : Fr} {S : Hp} : rval Try.prog F (sizeOf 131) S = some 10 := rval_size Try.sizeOf131
theorem ag131 {F : Fr} {h : Hp} {K : Bool → Hp → Prop} : dwp Try.prog F (isAgg 131) h K = K true h := dwp_agg_of Try.isAgg131
theorem ra131 {F : Fr} {S : Hp} : rval Try.prog F (isAgg 131) S = some true := rval_agg Try.isAgg131
theorem ze131 {F : Fr} {h : Hp} {K : Value → Hp → Prop} : dwp Try.prog F (zeroValue 131) h K = K (Go.Value.agg #[Go.Value.int Go.IntKind.i64 0, Go.Value.int Go.IntKind.i64 0, Go.Value.int Go.IntKind.i64 0, Go.Value.int Go.IntKind.i64 0, Go.Value.int Go.IntKind.i64 0, Go.Value.int Go.IntKind.i64 0, Go.Value.bool false, Go.Value.int Go.IntKind.i64 0, Go.Value.int Go.IntKind.i64 0, Go.Value.int Go.IntKind.i64 0]) h := dwp_zero_of Try.zeroValue131
theorem rz131 {F : Fr} {S : Hp} : rval Try.prog F (zeroValue 131) S = some (Go.Value.agg #[Go.Value.int Go.IntKind.i64 0, Go.Value.int Go.IntKind.i64 0, Go.Value.int Go.IntKind.i64 0, Go.Value.int Go.IntKind.i64 0, Go.Value.int Go.IntKind.i64 0, Go.Value.int Go.IntKind.i64 0, Go.Value.bool false, Go.Value.int Go.IntKind.i64 0, Go.Value.int Go.IntKind.i64 0, Go.Value.int Go.IntKind.i64 0]) := rval_zero Try.zeroValue131
theorem un132 {F : Fr} {h : Hp} {K : TypeDesc → Hp → Prop} : dwp Try.prog F (underlying 132) h K = K (Go.TypeDesc.struct #[{ name := "ThreadForm", type := 56, offset := 0, embedded := true, tag := "", pkgPath := "", byteOffset := 0 }, { name := "heights", type := 130, offset := 8, embedded := true, tag := "", pkgPath := "acme/fit", byteOffset := 64 }]) h := by rw [dwp_underlying, Try.underlying132]; rfl
theorem ru132 {F : Fr} {S : Hp} : rval Try.prog F (underlying 132) S = some (Go.TypeDesc.struct #[{ name := "ThreadForm", type := 56, offset := 0, embedded := true, tag := "", pkgPath := "", byteOffset := 0 }, { name := "heights", type := 130, offset := 8, embedded := true, tag := "", pkgPath := "acme/fit", byteOffset := 64 }]) := rval_un Try.underlying132
theorem sz132 {F : Fr} {h : Hp} {K : Nat → Hp → Prop} : dwp Try.prog F (sizeOf 132) h K = K 10 h := dwp_size_of Try.sizeOf132
theorem rs132 {F : Fr} {S : Hp} : rval Try.prog F (sizeOf 132) S = some 10 := rval_size Try.sizeOf132
theorem ag132 {F : Fr} {h : Hp} {K : Bool → Hp → Prop} : dwp Try.prog F (isAgg 132) h K = K true h := dwp_agg_of Try.isAgg132
theorem ra132 {F : Fr} {S : Hp} : rval Try.prog F (isAgg 132) S = some true := rval_agg Try.isAgg132
theorem ze132 {F : Fr} {h : Hp} {K : Value → Hp → Prop} : dwp Try.prog F (zeroValue 132) h K = K (Go.Value.agg #[Go.Value.int Go.IntKind.i64 0, Go.Value.int Go.IntKind.i64 0, Go.Value.int Go.IntKind.i64 0, Go.Value.int Go.IntKind.i64 0, Go.Value.int Go.IntKind.i64 0, Go.Value.int Go.IntKind.i64 0, Go.Value.bool false, Go.Value.int Go.IntKind.i64 0, Go.Value.int Go.IntKind.i64 0, Go.Value.int Go.IntKind.i64 0]) h := dwp_zero_of Try.zeroValue132
theorem rz132 {F : Fr} {S : Hp} : rval Try.prog F (zeroValue 132) S = some (Go.Value.agg #[Go.Value.int Go.IntKind.i64 0, Go.Value.int Go.IntKind.i64 0, Go.Value.int Go.IntKind.i64 0, Go.Value.int Go.IntKind.i64 0, Go.Value.int Go.IntKind.i64 0, Go.Value.int Go.IntKind.i64 0, Go.Value.bool false, Go.Value.int Go.IntKind.i64 0, Go.Value.int Go.IntKind.i64 0, Go.Value.int Go.IntKind.i64 0]) := rval_zero Try.zeroValue132
theorem un133 {F : Fr} {h : Hp} {K : TypeDesc → Hp → Prop} : dwp Try.prog F (underlying 133) h K = K (Go.TypeDesc.tuple #[132, 35]) h := by rw [dwp_underlying, Try.underlying133]; rfl
theorem ru133 {F : Fr} {S : Hp} : rval Try.prog F (underlying 133) S = some (Go.TypeDesc.tuple #[132, 35]) := rval_un Try.underlying133
theorem sz133 {F : Fr} {h : Hp} {K : Nat → Hp → Prop} : dwp Try.prog F (sizeOf 133) h K = K 1 h := dwp_size_of Try.sizeOf133
theorem rs133 {F : Fr} {S : Hp} : rval Try.prog F (sizeOf 133) S = some 1 := rval_size Try.sizeOf133
theorem ag133 {F : Fr} {h : Hp} {K : Bool → Hp → Prop} : dwp Try.prog F (isAgg 133) h K = K false h := dwp_agg_of Try.isAgg133
theorem ra133 {F : Fr} {S : Hp} : rval Try.prog F (isAgg 133) S = some false := rval_agg Try.isAgg133
theorem ze133 {F : Fr} {h : Hp} {K : Value → Hp → Prop} : dwp Try.prog F (zeroValue 133) h K = K (Go.Value.tuple #[Go.Value.agg #[Go.Value.int Go.IntKind.i64 0, Go.Value.int Go.IntKind.i64 0, Go.Value.int Go.IntKind.i64 0, Go.Value.int Go.IntKind.i64 0, Go.Value.int Go.IntKind.i64 0, Go.Value.int Go.IntKind.i64 0, Go.Value.bool false, Go.Value.int Go.IntKind.i64 0, Go.Value.int Go.IntKind.i64 0, Go.Value.int Go.IntKind.i64 0], Go.Value.int Go.IntKind.i64 0]) h := dwp_zero_of Try.zeroValue133
theorem rz133 {F : Fr} {S : Hp} : rval Try.prog F (zeroValue 133) S = some (Go.Value.tuple #[Go.Value.agg #[Go.Value.int Go.IntKind.i64 0, Go.Value.int Go.IntKind.i64 0, Go.Value.int Go.IntKind.i64 0, Go.Value.int Go.IntKind.i64 0, Go.Value.int Go.IntKind.i64 0, Go.Value.int Go.IntKind.i64 0, Go.Value.bool false, Go.Value.int Go.IntKind.i64 0, Go.Value.int Go.IntKind.i64 0, Go.Value.int Go.IntKind.i64 0], Go.Value.int Go.IntKind.i64 0]) := rval_zero Try.zeroValue133
theorem un134 {F : Fr} {h : Hp} {K : TypeDesc → Hp → Prop} : dwp Try.prog F (underlying 134) h K = K (Go.TypeDesc.func #[56, 30, 178] #[132, 35] true) h := by rw [dwp_underlying, Try.underlying134]; rfl
theorem ru134 {F : Fr} {S : Hp} : rval Try.prog F (underlying 134) S = some (Go.TypeDesc.func #[56, 30, 178] #[132, 35] true) := rval_un Try.underlying134
theorem sz134 {F : Fr} {h : Hp} {K : Nat → Hp → Prop} : dwp Try.prog F (sizeOf 134) h K = K 1 h := dwp_size_of Try.sizeOf134
theorem rs134 {F : Fr} {S : Hp} : rval Try.prog F (sizeOf 134) S = some 1 := rval_size Try.sizeOf134
theorem ag134 {F : Fr} {h : Hp} {K : Bool → Hp → Prop} : dwp Try.prog F (isAgg 134) h K = K false h := dwp_agg_of Try.isAgg134
theorem ra134 {F : Fr} {S : Hp} : rval Try.prog F (isAgg 134) S = some false := rval_agg Try.isAgg134
theorem ze134 {F : Fr} {h : Hp} {K : Value → Hp → Prop} : dwp Try.prog F (zeroValue 134) h K = K Go.Value.nilFunc h := dwp_zero_of Try.zeroValue134
theorem rz134 {F : Fr} {S : Hp} : rval Try.prog F (zeroValue 134) S = some (Go.Value.nilFunc) := rval_zero Try.zeroValue134
theorem un135 {F : Fr} {h : Hp} {K : TypeDesc → Hp → Prop} : dwp Try.prog F (underlying 135) h K = K (Go.TypeDesc.func #[67, 3] #[3] false) h := by rw [dwp_underlying, Try.underlying135]; rfl
theorem ru135 {F : Fr} {S : Hp} : rval Try.prog F (underlying 135) S = some (Go.TypeDesc.func #[67, 3] #[3] false) := rval_un Try.underlying135
theorem sz135 {F : Fr} {h : Hp} {K : Nat → Hp → Prop} : dwp Try.prog F (sizeOf 135) h K = K 1 h := dwp_size_of Try.sizeOf135
theorem rs135 {F : Fr} {S : Hp} : rval Try.prog F (sizeOf 135) S = some 1 := rval_size Try.sizeOf135
theorem ag135 {F : Fr} {h : Hp} {K : Bool → Hp → Prop} : dwp Try.prog F (isAgg 135) h K = K false h := dwp_agg_of Try.isAgg135
theorem ra135 {F : Fr} {S : Hp} : rval Try.prog F (isAgg 135) S = some false := rval_agg Try.isAgg135
theorem ze135 {F : Fr} {h : Hp} {K : Value → Hp → Prop} : dwp Try.prog F (zeroValue 135) h K = K Go.Value.nilFunc h := dwp_zero_of Try.zeroValue135
end Go.Proofs.Ytdhdfdaclbfkiaa
