/-
  The types of the program, as the walk over a part of memory asks them. Conditions: none. Printed by facts.py (own program).
-/
import Derived.Test.YtofplebnlaaceaaProg
import Derived.Test.YtofplebnlaaceaaS8
namespace Go.Proofs.Ytofplebnlaaceaa
open Go Go.SL Go.RowKit
set_option linter.unusedVariables false
theorem un0 {F : Fr} {h : Hp} {K : TypeDesc → Hp → Prop} : dwp Try.prog F (underlying 0) h K = K (Go.TypeDesc.tuple #[]) h := by rw [dwp_underlying, Try.underlying0]; rfl
theorem ru0 {F : Fr} {S : Hp} : rval Try.prog F (underlying 0) S = some (Go.TypeDesc.tuple #[]) := rval_un Try.underlying0
theorem sz0 {F : Fr} {h : Hp} {K : Nat → Hp → Prop} : dwp Try.prog F (sizeOf 0) h K = K 1 h := dwp_size_of Try.sizeOf0
theorem rs0 {F : Fr} {S : Hp} : rval Try.prog F (sizeOf 0) S = some 1 := rval_size Try.sizeOf0
theorem ag0 {F : Fr} {h : Hp} {K : Bool → Hp → Prop} : dwp Try.prog F (isAgg 0) h K = K false h := dwp_agg_of Try.isAgg0
theorem ra0 {F : Fr} {S : Hp} : rval Try.prog F (isAgg 0) S = some false := rval_agg Try.isAgg0
theorem ze0 {F : Fr} {h : Hp} {K : Value → Hp → Prop} : dwp Try.prog F (zeroValue 0) h K = K (Go.Value.tuple #[]) h := dwp_zero_of Try.zeroValue0
theorem rz0 {F : Fr} {S : Hp} : rval Try.prog F (zeroValue 0) S = some (Go.Value.tuple #[]) := rval_zero Try.zeroValue0
theorem un1 {F : Fr} {h : Hp} {K : TypeDesc → Hp → Prop} : dwp Try.prog F (underlying 1) h K = K (Go.TypeDesc.func #[] #[] false) h := by rw [dwp_underlying, Try.underlying1]; rfl
theorem ru1 {F : Fr} {S : Hp} : rval Try.prog F (underlying 1) S = some (Go.TypeDesc.func #[] #[] false) := rval_un Try.underlying1
theorem sz1 {F : Fr} {h : Hp} {K : Nat → Hp → Prop} : dwp Try.prog F (sizeOf 1) h K = K 1 h := dwp_size_of Try.sizeOf1
theorem rs1 {F : Fr} {S : Hp} : rval Try.prog F (sizeOf 1) S = some 1 := rval_size Try.sizeOf1
theorem ag1 {F : Fr} {h : Hp} {K : Bool → Hp → Prop} : dwp Try.prog F (isAgg 1) h K = K false h := dwp_agg_of Try.isAgg1
theorem ra1 {F : Fr} {S : Hp} : rval Try.prog F (isAgg 1) S = some false := rval_agg Try.isAgg1
theorem ze1 {F : Fr} {h : Hp} {K : Value → Hp → Prop} : dwp Try.prog F (zeroValue 1) h K = K Go.Value.nilFunc h := dwp_zero_of Try.zeroValue1
theorem rz1 {F : Fr} {S : Hp} : rval Try.prog F (zeroValue 1) S = some (Go.Value.nilFunc) := rval_zero Try.zeroValue1
theorem un2 {F : Fr} {h : Hp} {K : TypeDesc → Hp → Prop} : dwp Try.prog F (underlying 2) h K = K (Go.TypeDesc.int Go.IntKind.i64) h := by rw [dwp_underlying, Try.underlying2]; rfl
theorem ru2 {F : Fr} {S : Hp} : rval Try.prog F (underlying 2) S = some (Go.TypeDesc.int Go.IntKind.i64) := rval_un Try.underlying2
theorem sz2 {F : Fr} {h : Hp} {K : Nat → Hp → Prop} : dwp Try.prog F (sizeOf 2) h K = K 1 h := dwp_size_of Try.sizeOf2
theorem rs2 {F : Fr} {S : Hp} : rval Try.prog F (sizeOf 2) S = some 1 := rval_size Try.sizeOf2
theorem ag2 {F : Fr} {h : Hp} {K : Bool → Hp → Prop} : dwp Try.prog F (isAgg 2) h K = K false h := dwp_agg_of Try.isAgg2
theorem ra2 {F : Fr} {S : Hp} : rval Try.prog F (isAgg 2) S = some false := rval_agg Try.isAgg2
theorem ze2 {F : Fr} {h : Hp} {K : Value → Hp → Prop} : dwp Try.prog F (zeroValue 2) h K = K (Go.Value.int Go.IntKind.i64 0) h := dwp_zero_of Try.zeroValue2
theorem rz2 {F : Fr} {S : Hp} : rval Try.prog F (zeroValue 2) S = some (Go.Value.int Go.IntKind.i64 0) := rval_zero Try.zeroValue2
theorem un3 {F : Fr} {h : Hp} {K : TypeDesc → Hp → Prop} : dwp Try.prog F (underlying 3) h K = K (Go.TypeDesc.int Go.IntKind.i64) h := by rw [dwp_underlying, Try.underlying3]; rfl
theorem ru3 {F : Fr} {S : Hp} : rval Try.prog F (underlying 3) S = some (Go.TypeDesc.int Go.IntKind.i64) := rval_un Try.underlying3
theorem sz3 {F : Fr} {h : Hp} {K : Nat → Hp → Prop} : dwp Try.prog F (sizeOf 3) h K = K 1 h := dwp_size_of Try.sizeOf3
theorem rs3 {F : Fr} {S : Hp} : rval Try.prog F (sizeOf 3) S = some 1 := rval_size Try.sizeOf3
theorem ag3 {F : Fr} {h : Hp} {K : Bool → Hp → Prop} : dwp Try.prog F (isAgg 3) h K = K false h := dwp_agg_of Try.isAgg3
theorem ra3 {F : Fr} {S : Hp} : rval Try.prog F (isAgg 3) S = some false := rval_agg Try.isAgg3
theorem ze3 {F : Fr} {h : Hp} {K : Value → Hp → Prop} : dwp Try.prog F (zeroValue 3) h K = K (Go.Value.int Go.IntKind.i64 0) h := dwp_zero_of Try.zeroValue3
theorem rz3 {F : Fr} {S : Hp} : rval Try.prog F (zeroValue 3) S = some (Go.Value.int Go.IntKind.i64 0) := rval_zero Try.zeroValue3
theorem un4 {F : Fr} {h : Hp} {K : TypeDesc → Hp → Prop} : dwp Try.prog F (underlying 4) h K = K (Go.TypeDesc.bool) h := by rw [dwp_underlying, Try.underlying4]; rfl
theorem ru4 {F : Fr} {S : Hp} : rval Try.prog F (underlying 4) S = some (Go.TypeDesc.bool) := rval_un Try.underlying4
theorem sz4 {F : Fr} {h : Hp} {K : Nat → Hp → Prop} : dwp Try.prog F (sizeOf 4) h K = K 1 h := dwp_size_of Try.sizeOf4
theorem rs4 {F : Fr} {S : Hp} : rval Try.prog F (sizeOf 4) S = some 1 := rval_size Try.sizeOf4
theorem ag4 {F : Fr} {h : Hp} {K : Bool → Hp → Prop} : dwp Try.prog F (isAgg 4) h K = K false h := dwp_agg_of Try.isAgg4
theorem ra4 {F : Fr} {S : Hp} : rval Try.prog F (isAgg 4) S = some false := rval_agg Try.isAgg4
theorem ze4 {F : Fr} {h : Hp} {K : Value → Hp → Prop} : dwp Try.prog F (zeroValue 4) h K = K (Go.Value.bool false) h := dwp_zero_of Try.zeroValue4
theorem rz4 {F : Fr} {S : Hp} : rval Try.prog F (zeroValue 4) S = some (Go.Value.bool false) := rval_zero Try.zeroValue4
theorem un5 {F : Fr} {h : Hp} {K : TypeDesc → Hp → Prop} : dwp Try.prog F (underlying 5) h K = K (Go.TypeDesc.int Go.IntKind.u8) h := by rw [dwp_underlying, Try.underlying5]; rfl
theorem ru5 {F : Fr} {S : Hp} : rval Try.prog F (underlying 5) S = some (Go.TypeDesc.int Go.IntKind.u8) := rval_un Try.underlying5
theorem sz5 {F : Fr} {h : Hp} {K : Nat → Hp → Prop} : dwp Try.prog F (sizeOf 5) h K = K 1 h := dwp_size_of Try.sizeOf5
theorem rs5 {F : Fr} {S : Hp} : rval Try.prog F (sizeOf 5) S = some 1 := rval_size Try.sizeOf5
theorem ag5 {F : Fr} {h : Hp} {K : Bool → Hp → Prop} : dwp Try.prog F (isAgg 5) h K = K false h := dwp_agg_of Try.isAgg5
theorem ra5 {F : Fr} {S : Hp} : rval Try.prog F (isAgg 5) S = some false := rval_agg Try.isAgg5
theorem ze5 {F : Fr} {h : Hp} {K : Value → Hp → Prop} : dwp Try.prog F (zeroValue 5) h K = K (Go.Value.int Go.IntKind.u8 0) h := dwp_zero_of Try.zeroValue5
theorem rz5 {F : Fr} {S : Hp} : rval Try.prog F (zeroValue 5) S = some (Go.Value.int Go.IntKind.u8 0) := rval_zero Try.zeroValue5
theorem un6 {F : Fr} {h : Hp} {K : TypeDesc → Hp → Prop} : dwp Try.prog F (underlying 6) h K = K (Go.TypeDesc.int Go.IntKind.u8) h := by rw [dwp_underlying, Try.underlying6]; rfl
theorem ru6 {F : Fr} {S : Hp} : rval Try.prog F (underlying 6) S = some (Go.TypeDesc.int Go.IntKind.u8) := rval_un Try.underlying6
theorem sz6 {F : Fr} {h : Hp} {K : Nat → Hp → Prop} : dwp Try.prog F (sizeOf 6) h K = K 1 h := dwp_size_of Try.sizeOf6
theorem rs6 {F : Fr} {S : Hp} : rval Try.prog F (sizeOf 6) S = some 1 := rval_size Try.sizeOf6
theorem ag6 {F : Fr} {h : Hp} {K : Bool → Hp → Prop} : dwp Try.prog F (isAgg 6) h K = K false h := dwp_agg_of Try.isAgg6
theorem ra6 {F : Fr} {S : Hp} : rval Try.prog F (isAgg 6) S = some false := rval_agg Try.isAgg6
theorem ze6 {F : Fr} {h : Hp} {K : Value → Hp → Prop} : dwp Try.prog F (zeroValue 6) h K = K (Go.Value.int Go.IntKind.u8 0) h := dwp_zero_of Try.zeroValue6
theorem rz6 {F : Fr} {S : Hp} : rval Try.prog F (zeroValue 6) S = some (Go.Value.int Go.IntKind.u8 0) := rval_zero Try.zeroValue6
theorem un7 {F : Fr} {h : Hp} {K : TypeDesc → Hp → Prop} : dwp Try.prog F (underlying 7) h K = K (Go.TypeDesc.struct #[{ name := "x", type := 2, offset := 0, embedded := false, tag := "", pkgPath := "runtime", byteOffset := 0 }, { name := "y", type := 3, offset := 1, embedded := false, tag := "", pkgPath := "runtime", byteOffset := 8 }, { name := "signed", type := 4, offset := 2, embedded := false, tag := "", pkgPath := "runtime", byteOffset := 16 }, { name := "code", type := 6, offset := 3, embedded := false, tag := "", pkgPath := "runtime", byteOffset := 17 }]) h := by rw [dwp_underlying, Try.underlying7]; rfl
theorem ru7 {F : Fr} {S : Hp} : rval Try.prog F (underlying 7) S = some (Go.TypeDesc.struct #[{ name := "x", type := 2, offset := 0, embedded := false, tag := "", pkgPath := "runtime", byteOffset := 0 }, { name := "y", type := 3, offset := 1, embedded := false, tag := "", pkgPath := "runtime", byteOffset := 8 }, { name := "signed", type := 4, offset := 2, embedded := false, tag := "", pkgPath := "runtime", byteOffset := 16 }, { name := "code", type := 6, offset := 3, embedded := false, tag := "", pkgPath := "runtime", byteOffset := 17 }]) := rval_un Try.underlying7
theorem sz7 {F : Fr} {h : Hp} {K : Nat → Hp → Prop} : dwp Try.prog F (sizeOf 7) h K = K 4 h := dwp_size_of Try.sizeOf7
theorem rs7 {F : Fr} {S : Hp} : rval Try.prog F (sizeOf 7) S = some 4 := rval_size Try.sizeOf7
theorem ag7 {F : Fr} {h : Hp} {K : Bool → Hp → Prop} : dwp Try.prog F (isAgg 7) h K = K true h := dwp_agg_of Try.isAgg7
theorem ra7 {F : Fr} {S : Hp} : rval Try.prog F (isAgg 7) S = some true := rval_agg Try.isAgg7
theorem ze7 {F : Fr} {h : Hp} {K : Value → Hp → Prop} : dwp Try.prog F (zeroValue 7) h K = K (Go.Value.agg #[Go.Value.int Go.IntKind.i64 0, Go.Value.int Go.IntKind.i64 0, Go.Value.bool false, Go.Value.int Go.IntKind.u8 0]) h := dwp_zero_of Try.zeroValue7
theorem rz7 {F : Fr} {S : Hp} : rval Try.prog F (zeroValue 7) S = some (Go.Value.agg #[Go.Value.int Go.IntKind.i64 0, Go.Value.int Go.IntKind.i64 0, Go.Value.bool false, Go.Value.int Go.IntKind.u8 0]) := rval_zero Try.zeroValue7
theorem un8 {F : Fr} {h : Hp} {K : TypeDesc → Hp → Prop} : dwp Try.prog F (underlying 8) h K = K (Go.TypeDesc.struct #[{ name := "x", type := 2, offset := 0, embedded := false, tag := "", pkgPath := "runtime", byteOffset := 0 }, { name := "y", type := 3, offset := 1, embedded := false, tag := "", pkgPath := "runtime", byteOffset := 8 }, { name := "signed", type := 4, offset := 2, embedded := false, tag := "", pkgPath := "runtime", byteOffset := 16 }, { name := "code", type := 6, offset := 3, embedded := false, tag := "", pkgPath := "runtime", byteOffset := 17 }]) h := by rw [dwp_underlying, Try.underlying8]; rfl
theorem ru8 {F : Fr} {S : Hp} : rval Try.prog F (underlying 8) S = some (Go.TypeDesc.struct #[{ name := "x", type := 2, offset := 0, embedded := false, tag := "", pkgPath := "runtime", byteOffset := 0 }, { name := "y", type := 3, offset := 1, embedded := false, tag := "", pkgPath := "runtime", byteOffset := 8 }, { name := "signed", type := 4, offset := 2, embedded := false, tag := "", pkgPath := "runtime", byteOffset := 16 }, { name := "code", type := 6, offset := 3, embedded := false, tag := "", pkgPath := "runtime", byteOffset := 17 }]) := rval_un Try.underlying8
theorem sz8 {F : Fr} {h : Hp} {K : Nat → Hp → Prop} : dwp Try.prog F (sizeOf 8) h K = K 4 h := dwp_size_of Try.sizeOf8
theorem rs8 {F : Fr} {S : Hp} : rval Try.prog F (sizeOf 8) S = some 4 := rval_size Try.sizeOf8
theorem ag8 {F : Fr} {h : Hp} {K : Bool → Hp → Prop} : dwp Try.prog F (isAgg 8) h K = K true h := dwp_agg_of Try.isAgg8
theorem ra8 {F : Fr} {S : Hp} : rval Try.prog F (isAgg 8) S = some true := rval_agg Try.isAgg8
theorem ze8 {F : Fr} {h : Hp} {K : Value → Hp → Prop} : dwp Try.prog F (zeroValue 8) h K = K (Go.Value.agg #[Go.Value.int Go.IntKind.i64 0, Go.Value.int Go.IntKind.i64 0, Go.Value.bool false, Go.Value.int Go.IntKind.u8 0]) h := dwp_zero_of Try.zeroValue8
theorem rz8 {F : Fr} {S : Hp} : rval Try.prog F (zeroValue 8) S = some (Go.Value.agg #[Go.Value.int Go.IntKind.i64 0, Go.Value.int Go.IntKind.i64 0, Go.Value.bool false, Go.Value.int Go.IntKind.u8 0]) := rval_zero Try.zeroValue8
theorem un9 {F : Fr} {h : Hp} {K : TypeDesc → Hp → Prop} : dwp Try.prog F (underlying 9) h K = K (Go.TypeDesc.string) h := by rw [dwp_underlying, Try.underlying9]; rfl
theorem ru9 {F : Fr} {S : Hp} : rval Try.prog F (underlying 9) S = some (Go.TypeDesc.string) := rval_un Try.underlying9
theorem sz9 {F : Fr} {h : Hp} {K : Nat → Hp → Prop} : dwp Try.prog F (sizeOf 9) h K = K 1 h := dwp_size_of Try.sizeOf9
theorem rs9 {F : Fr} {S : Hp} : rval Try.prog F (sizeOf 9) S = some 1 := rval_size Try.sizeOf9
theorem ag9 {F : Fr} {h : Hp} {K : Bool → Hp → Prop} : dwp Try.prog F (isAgg 9) h K = K false h := dwp_agg_of Try.isAgg9
theorem ra9 {F : Fr} {S : Hp} : rval Try.prog F (isAgg 9) S = some false := rval_agg Try.isAgg9
theorem ze9 {F : Fr} {h : Hp} {K : Value → Hp → Prop} : dwp Try.prog F (zeroValue 9) h K = K (Go.Value.string { data := #[] }) h := dwp_zero_of Try.zeroValue9
theorem rz9 {F : Fr} {S : Hp} : rval Try.prog F (zeroValue 9) S = some (Go.Value.string { data := #[] }) := rval_zero Try.zeroValue9
theorem un12 {F : Fr} {h : Hp} {K : TypeDesc → Hp → Prop} : dwp Try.prog F (underlying 12) h K = K (Go.TypeDesc.int Go.IntKind.u64) h := by rw [dwp_underlying, Try.underlying12]; rfl
theorem ru12 {F : Fr} {S : Hp} : rval Try.prog F (underlying 12) S = some (Go.TypeDesc.int Go.IntKind.u64) := rval_un Try.underlying12
theorem sz12 {F : Fr} {h : Hp} {K : Nat → Hp → Prop} : dwp Try.prog F (sizeOf 12) h K = K 1 h := dwp_size_of Try.sizeOf12
theorem rs12 {F : Fr} {S : Hp} : rval Try.prog F (sizeOf 12) S = some 1 := rval_size Try.sizeOf12
theorem ag12 {F : Fr} {h : Hp} {K : Bool → Hp → Prop} : dwp Try.prog F (isAgg 12) h K = K false h := dwp_agg_of Try.isAgg12
theorem ra12 {F : Fr} {S : Hp} : rval Try.prog F (isAgg 12) S = some false := rval_agg Try.isAgg12
theorem ze12 {F : Fr} {h : Hp} {K : Value → Hp → Prop} : dwp Try.prog F (zeroValue 12) h K = K (Go.Value.int Go.IntKind.u64 0) h := dwp_zero_of Try.zeroValue12
theorem rz12 {F : Fr} {S : Hp} : rval Try.prog F (zeroValue 12) S = some (Go.Value.int Go.IntKind.u64 0) := rval_zero Try.zeroValue12
theorem un20 {F : Fr} {h : Hp} {K : TypeDesc → Hp → Prop} : dwp Try.prog F (underlying 20) h K = K (Go.TypeDesc.interface #[]) h := by rw [dwp_underlying, Try.underlying20]; rfl
theorem ru20 {F : Fr} {S : Hp} : rval Try.prog F (underlying 20) S = some (Go.TypeDesc.interface #[]) := rval_un Try.underlying20
theorem sz20 {F : Fr} {h : Hp} {K : Nat → Hp → Prop} : dwp Try.prog F (sizeOf 20) h K = K 1 h := dwp_size_of Try.sizeOf20
theorem rs20 {F : Fr} {S : Hp} : rval Try.prog F (sizeOf 20) S = some 1 := rval_size Try.sizeOf20
theorem ag20 {F : Fr} {h : Hp} {K : Bool → Hp → Prop} : dwp Try.prog F (isAgg 20) h K = K false h := dwp_agg_of Try.isAgg20
theorem ra20 {F : Fr} {S : Hp} : rval Try.prog F (isAgg 20) S = some false := rval_agg Try.isAgg20
theorem ze20 {F : Fr} {h : Hp} {K : Value → Hp → Prop} : dwp Try.prog F (zeroValue 20) h K = K Go.Value.nilIface h := dwp_zero_of Try.zeroValue20
theorem rz20 {F : Fr} {S : Hp} : rval Try.prog F (zeroValue 20) S = some (Go.Value.nilIface) := rval_zero Try.zeroValue20
theorem un22 {F : Fr} {h : Hp} {K : TypeDesc → Hp → Prop} : dwp Try.prog F (underlying 22) h K = K (Go.TypeDesc.array 4 5) h := by rw [dwp_underlying, Try.underlying22]; rfl
theorem ru22 {F : Fr} {S : Hp} : rval Try.prog F (underlying 22) S = some (Go.TypeDesc.array 4 5) := rval_un Try.underlying22
theorem ix22 {F : Fr} {h : Hp} {a : Addr} {k : IntKind} {i : Int} {K : Value → Hp → Prop} (h1 : 0 ≤ i) (h2 : i < ((4 : Nat) : Int)) : dwp Try.prog F (Instr.indexAt 22 (.pointer (some a)) (.int k i)) h K = K (.pointer (some (a.add (i.toNat * 1)))) h := dwp_ixA Try.underlying22 Try.sizeOf5 h1 h2
theorem rx22 {F : Fr} {S : Hp} {a : Addr} {k : IntKind} {i : Int} (h1 : 0 ≤ i) (h2 : i < ((4 : Nat) : Int)) : rval Try.prog F (Instr.indexAt 22 (.pointer (some a)) (.int k i)) S = some (.pointer (some (a.add (i.toNat * 1)))) := rval_ixA Try.underlying22 Try.sizeOf5 h1 h2
theorem sz22 {F : Fr} {h : Hp} {K : Nat → Hp → Prop} : dwp Try.prog F (sizeOf 22) h K = K 4 h := dwp_size_of Try.sizeOf22
theorem rs22 {F : Fr} {S : Hp} : rval Try.prog F (sizeOf 22) S = some 4 := rval_size Try.sizeOf22
theorem ag22 {F : Fr} {h : Hp} {K : Bool → Hp → Prop} : dwp Try.prog F (isAgg 22) h K = K true h := dwp_agg_of Try.isAgg22
theorem ra22 {F : Fr} {S : Hp} : rval Try.prog F (isAgg 22) S = some true := rval_agg Try.isAgg22
theorem ze22 {F : Fr} {h : Hp} {K : Value → Hp → Prop} : dwp Try.prog F (zeroValue 22) h K = K (Go.Value.agg #[Go.Value.int Go.IntKind.u8 0, Go.Value.int Go.IntKind.u8 0, Go.Value.int Go.IntKind.u8 0, Go.Value.int Go.IntKind.u8 0]) h := dwp_zero_of Try.zeroValue22
theorem rz22 {F : Fr} {S : Hp} : rval Try.prog F (zeroValue 22) S = some (Go.Value.agg #[Go.Value.int Go.IntKind.u8 0, Go.Value.int Go.IntKind.u8 0, Go.Value.int Go.IntKind.u8 0, Go.Value.int Go.IntKind.u8 0]) := rval_zero Try.zeroValue22
theorem un24 {F : Fr} {h : Hp} {K : TypeDesc → Hp → Prop} : dwp Try.prog F (underlying 24) h K = K (Go.TypeDesc.struct #[{ name := "Pitch", type := 3, offset := 0, embedded := false, tag := "", pkgPath := "", byteOffset := 0 }, { name := "Left", type := 3, offset := 1, embedded := false, tag := "", pkgPath := "", byteOffset := 8 }, { name := "Right", type := 3, offset := 2, embedded := false, tag := "", pkgPath := "", byteOffset := 16 }, { name := "Above", type := 3, offset := 3, embedded := false, tag := "", pkgPath := "", byteOffset := 24 }, { name := "Below", type := 3, offset := 4, embedded := false, tag := "", pkgPath := "", byteOffset := 32 }, { name := "Starts", type := 3, offset := 5, embedded := false, tag := "", pkgPath := "", byteOffset := 40 }, { name := "LeftHand", type := 4, offset := 6, embedded := false, tag := "", pkgPath := "", byteOffset := 48 }, { name := "Taper", type := 3, offset := 7, embedded := false, tag := "", pkgPath := "", byteOffset := 56 }]) h := by rw [dwp_underlying, Try.underlying24]; rfl
theorem ru24 {F : Fr} {S : Hp} : rval Try.prog F (underlying 24) S = some (Go.TypeDesc.struct #[{ name := "Pitch", type := 3, offset := 0, embedded := false, tag := "", pkgPath := "", byteOffset := 0 }, { name := "Left", type := 3, offset := 1, embedded := false, tag := "", pkgPath := "", byteOffset := 8 }, { name := "Right", type := 3, offset := 2, embedded := false, tag := "", pkgPath := "", byteOffset := 16 }, { name := "Above", type := 3, offset := 3, embedded := false, tag := "", pkgPath := "", byteOffset := 24 }, { name := "Below", type := 3, offset := 4, embedded := false, tag := "", pkgPath := "", byteOffset := 32 }, { name := "Starts", type := 3, offset := 5, embedded := false, tag := "", pkgPath := "", byteOffset := 40 }, { name := "LeftHand", type := 4, offset := 6, embedded := false, tag := "", pkgPath := "", byteOffset := 48 }, { name := "Taper", type := 3, offset := 7, embedded := false, tag := "", pkgPath := "", byteOffset := 56 }]) := rval_un Try.underlying24
theorem sz24 {F : Fr} {h : Hp} {K : Nat → Hp → Prop} : dwp Try.prog F (sizeOf 24) h K = K 8 h := dwp_size_of Try.sizeOf24
theorem rs24 {F : Fr} {S : Hp} : rval Try.prog F (sizeOf 24) S = some 8 := rval_size Try.sizeOf24
theorem ag24 {F : Fr} {h : Hp} {K : Bool → Hp → Prop} : dwp Try.prog F (isAgg 24) h K = K true h := dwp_agg_of Try.isAgg24
theorem ra24 {F : Fr} {S : Hp} : rval Try.prog F (isAgg 24) S = some true := rval_agg Try.isAgg24
theorem ze24 {F : Fr} {h : Hp} {K : Value → Hp → Prop} : dwp Try.prog F (zeroValue 24) h K = K (Go.Value.agg #[Go.Value.int Go.IntKind.i64 0, Go.Value.int Go.IntKind.i64 0, Go.Value.int Go.IntKind.i64 0, Go.Value.int Go.IntKind.i64 0, Go.Value.int Go.IntKind.i64 0, Go.Value.int Go.IntKind.i64 0, Go.Value.bool false, Go.Value.int Go.IntKind.i64 0]) h := dwp_zero_of Try.zeroValue24
theorem rz24 {F : Fr} {S : Hp} : rval Try.prog F (zeroValue 24) S = some (Go.Value.agg #[Go.Value.int Go.IntKind.i64 0, Go.Value.int Go.IntKind.i64 0, Go.Value.int Go.IntKind.i64 0, Go.Value.int Go.IntKind.i64 0, Go.Value.int Go.IntKind.i64 0, Go.Value.int Go.IntKind.i64 0, Go.Value.bool false, Go.Value.int Go.IntKind.i64 0]) := rval_zero Try.zeroValue24
theorem un27 {F : Fr} {h : Hp} {K : TypeDesc → Hp → Prop} : dwp Try.prog F (underlying 27) h K = K (Go.TypeDesc.struct #[{ name := "Low", type := 3, offset := 0, embedded := false, tag := "", pkgPath := "", byteOffset := 0 }, { name := "High", type := 3, offset := 1, embedded := false, tag := "", pkgPath := "", byteOffset := 8 }]) h := by rw [dwp_underlying, Try.underlying27]; rfl
theorem ru27 {F : Fr} {S : Hp} : rval Try.prog F (underlying 27) S = some (Go.TypeDesc.struct #[{ name := "Low", type := 3, offset := 0, embedded := false, tag := "", pkgPath := "", byteOffset := 0 }, { name := "High", type := 3, offset := 1, embedded := false, tag := "", pkgPath := "", byteOffset := 8 }]) := rval_un Try.underlying27
theorem sz27 {F : Fr} {h : Hp} {K : Nat → Hp → Prop} : dwp Try.prog F (sizeOf 27) h K = K 2 h := dwp_size_of Try.sizeOf27
theorem rs27 {F : Fr} {S : Hp} : rval Try.prog F (sizeOf 27) S = some 2 := rval_size Try.sizeOf27
theorem ag27 {F : Fr} {h : Hp} {K : Bool → Hp → Prop} : dwp Try.prog F (isAgg 27) h K = K true h := dwp_agg_of Try.isAgg27
theorem ra27 {F : Fr} {S : Hp} : rval Try.prog F (isAgg 27) S = some true := rval_agg Try.isAgg27
theorem ze27 {F : Fr} {h : Hp} {K : Value → Hp → Prop} : dwp Try.prog F (zeroValue 27) h K = K (Go.Value.agg #[Go.Value.int Go.IntKind.i64 0, Go.Value.int Go.IntKind.i64 0]) h := dwp_zero_of Try.zeroValue27
theorem rz27 {F : Fr} {S : Hp} : rval Try.prog F (zeroValue 27) S = some (Go.Value.agg #[Go.Value.int Go.IntKind.i64 0, Go.Value.int Go.IntKind.i64 0]) := rval_zero Try.zeroValue27
theorem un28 {F : Fr} {h : Hp} {K : TypeDesc → Hp → Prop} : dwp Try.prog F (underlying 28) h K = K (Go.TypeDesc.func #[29] #[27] false) h := by rw [dwp_underlying, Try.underlying28]; rfl
theorem ru28 {F : Fr} {S : Hp} : rval Try.prog F (underlying 28) S = some (Go.TypeDesc.func #[29] #[27] false) := rval_un Try.underlying28
theorem sz28 {F : Fr} {h : Hp} {K : Nat → Hp → Prop} : dwp Try.prog F (sizeOf 28) h K = K 1 h := dwp_size_of Try.sizeOf28
theorem rs28 {F : Fr} {S : Hp} : rval Try.prog F (sizeOf 28) S = some 1 := rval_size Try.sizeOf28
theorem ag28 {F : Fr} {h : Hp} {K : Bool → Hp → Prop} : dwp Try.prog F (isAgg 28) h K = K false h := dwp_agg_of Try.isAgg28
theorem ra28 {F : Fr} {S : Hp} : rval Try.prog F (isAgg 28) S = some false := rval_agg Try.isAgg28
theorem ze28 {F : Fr} {h : Hp} {K : Value → Hp → Prop} : dwp Try.prog F (zeroValue 28) h K = K Go.Value.nilFunc h := dwp_zero_of Try.zeroValue28
theorem rz28 {F : Fr} {S : Hp} : rval Try.prog F (zeroValue 28) S = some (Go.Value.nilFunc) := rval_zero Try.zeroValue28
theorem un29 {F : Fr} {h : Hp} {K : TypeDesc → Hp → Prop} : dwp Try.prog F (underlying 29) h K = K (Go.TypeDesc.array 2 5) h := by rw [dwp_underlying, Try.underlying29]; rfl
theorem ru29 {F : Fr} {S : Hp} : rval Try.prog F (underlying 29) S = some (Go.TypeDesc.array 2 5) := rval_un Try.underlying29
theorem ix29 {F : Fr} {h : Hp} {a : Addr} {k : IntKind} {i : Int} {K : Value → Hp → Prop} (h1 : 0 ≤ i) (h2 : i < ((2 : Nat) : Int)) : dwp Try.prog F (Instr.indexAt 29 (.pointer (some a)) (.int k i)) h K = K (.pointer (some (a.add (i.toNat * 1)))) h := dwp_ixA Try.underlying29 Try.sizeOf5 h1 h2
theorem rx29 {F : Fr} {S : Hp} {a : Addr} {k : IntKind} {i : Int} (h1 : 0 ≤ i) (h2 : i < ((2 : Nat) : Int)) : rval Try.prog F (Instr.indexAt 29 (.pointer (some a)) (.int k i)) S = some (.pointer (some (a.add (i.toNat * 1)))) := rval_ixA Try.underlying29 Try.sizeOf5 h1 h2
theorem sz29 {F : Fr} {h : Hp} {K : Nat → Hp → Prop} : dwp Try.prog F (sizeOf 29) h K = K 2 h := dwp_size_of Try.sizeOf29
theorem rs29 {F : Fr} {S : Hp} : rval Try.prog F (sizeOf 29) S = some 2 := rval_size Try.sizeOf29
theorem ag29 {F : Fr} {h : Hp} {K : Bool → Hp → Prop} : dwp Try.prog F (isAgg 29) h K = K true h := dwp_agg_of Try.isAgg29
theorem ra29 {F : Fr} {S : Hp} : rval Try.prog F (isAgg 29) S = some true := rval_agg Try.isAgg29
theorem ze29 {F : Fr} {h : Hp} {K : Value → Hp → Prop} : dwp Try.prog F (zeroValue 29) h K = K (Go.Value.agg #[Go.Value.int Go.IntKind.u8 0, Go.Value.int Go.IntKind.u8 0]) h := dwp_zero_of Try.zeroValue29
theorem rz29 {F : Fr} {S : Hp} : rval Try.prog F (zeroValue 29) S = some (Go.Value.agg #[Go.Value.int Go.IntKind.u8 0, Go.Value.int Go.IntKind.u8 0]) := rval_zero Try.zeroValue29
theorem un30 {F : Fr} {h : Hp} {K : TypeDesc → Hp → Prop} : dwp Try.prog F (underlying 30) h K = K (Go.TypeDesc.int Go.IntKind.i64) h := by rw [dwp_underlying, Try.underlying30]; rfl
theorem ru30 {F : Fr} {S : Hp} : rval Try.prog F (underlying 30) S = some (Go.TypeDesc.int Go.IntKind.i64) := rval_un Try.underlying30
theorem sz30 {F : Fr} {h : Hp} {K : Nat → Hp → Prop} : dwp Try.prog F (sizeOf 30) h K = K 1 h := dwp_size_of Try.sizeOf30
theorem rs30 {F : Fr} {S : Hp} : rval Try.prog F (sizeOf 30) S = some 1 := rval_size Try.sizeOf30
theorem ag30 {F : Fr} {h : Hp} {K : Bool → Hp → Prop} : dwp Try.prog F (isAgg 30) h K = K false h := dwp_agg_of Try.isAgg30
theorem ra30 {F : Fr} {S : Hp} : rval Try.prog F (isAgg 30) S = some false := rval_agg Try.isAgg30
theorem ze30 {F : Fr} {h : Hp} {K : Value → Hp → Prop} : dwp Try.prog F (zeroValue 30) h K = K (Go.Value.int Go.IntKind.i64 0) h := dwp_zero_of Try.zeroValue30
theorem rz30 {F : Fr} {S : Hp} : rval Try.prog F (zeroValue 30) S = some (Go.Value.int Go.IntKind.i64 0) := rval_zero Try.zeroValue30
theorem un36 {F : Fr} {h : Hp} {K : TypeDesc → Hp → Prop} : dwp Try.prog F (underlying 36) h K = K (Go.TypeDesc.array 3 5) h := by rw [dwp_underlying, Try.underlying36]; rfl
theorem ru36 {F : Fr} {S : Hp} : rval Try.prog F (underlying 36) S = some (Go.TypeDesc.array 3 5) := rval_un Try.underlying36
theorem ix36 {F : Fr} {h : Hp} {a : Addr} {k : IntKind} {i : Int} {K : Value → Hp → Prop} (h1 : 0 ≤ i) (h2 : i < ((3 : Nat) : Int)) : dwp Try.prog F (Instr.indexAt 36 (.pointer (some a)) (.int k i)) h K = K (.pointer (some (a.add (i.toNat * 1)))) h := dwp_ixA Try.underlying36 Try.sizeOf5 h1 h2
theorem rx36 {F : Fr} {S : Hp} {a : Addr} {k : IntKind} {i : Int} (h1 : 0 ≤ i) (h2 : i < ((3 : Nat) : Int)) : rval Try.prog F (Instr.indexAt 36 (.pointer (some a)) (.int k i)) S = some (.pointer (some (a.add (i.toNat * 1)))) := rval_ixA Try.underlying36 Try.sizeOf5 h1 h2
theorem sz36 {F : Fr} {h : Hp} {K : Nat → Hp → Prop} : dwp Try.prog F (sizeOf 36) h K = K 3 h := dwp_size_of Try.sizeOf36
theorem rs36 {F : Fr} {S : Hp} : rval Try.prog F (sizeOf 36) S = some 3 := rval_size Try.sizeOf36
theorem ag36 {F : Fr} {h : Hp} {K : Bool → Hp → Prop} : dwp Try.prog F (isAgg 36) h K = K true h := dwp_agg_of Try.isAgg36
theorem ra36 {F : Fr} {S : Hp} : rval Try.prog F (isAgg 36) S = some true := rval_agg Try.isAgg36
theorem ze36 {F : Fr} {h : Hp} {K : Value → Hp → Prop} : dwp Try.prog F (zeroValue 36) h K = K (Go.Value.agg #[Go.Value.int Go.IntKind.u8 0, Go.Value.int Go.IntKind.u8 0, Go.Value.int Go.IntKind.u8 0]) h := dwp_zero_of Try.zeroValue36
theorem rz36 {F : Fr} {S : Hp} : rval Try.prog F (zeroValue 36) S = some (Go.Value.agg #[Go.Value.int Go.IntKind.u8 0, Go.Value.int Go.IntKind.u8 0, Go.Value.int Go.IntKind.u8 0]) := rval_zero Try.zeroValue36
theorem un38 {F : Fr} {h : Hp} {K : TypeDesc → Hp → Prop} : dwp Try.prog F (underlying 38) h K = K (Go.TypeDesc.struct #[{ name := "Sizes", type := 36, offset := 0, embedded := false, tag := "", pkgPath := "", byteOffset := 0 }, { name := "On", type := 22, offset := 3, embedded := false, tag := "", pkgPath := "", byteOffset := 3 }, { name := "Stiff", type := 29, offset := 7, embedded := false, tag := "", pkgPath := "", byteOffset := 7 }]) h := by rw [dwp_underlying, Try.underlying38]; rfl
theorem ru38 {F : Fr} {S : Hp} : rval Try.prog F (underlying 38) S = some (Go.TypeDesc.struct #[{ name := "Sizes", type := 36, offset := 0, embedded := false, tag := "", pkgPath := "", byteOffset := 0 }, { name := "On", type := 22, offset := 3, embedded := false, tag := "", pkgPath := "", byteOffset := 3 }, { name := "Stiff", type := 29, offset := 7, embedded := false, tag := "", pkgPath := "", byteOffset := 7 }]) := rval_un Try.underlying38
theorem sz38 {F : Fr} {h : Hp} {K : Nat → Hp → Prop} : dwp Try.prog F (sizeOf 38) h K = K 9 h := dwp_size_of Try.sizeOf38
theorem rs38 {F : Fr} {S : Hp} : rval Try.prog F (sizeOf 38) S = some 9 := rval_size Try.sizeOf38
theorem ag38 {F : Fr} {h : Hp} {K : Bool → Hp → Prop} : dwp Try.prog F (isAgg 38) h K = K true h := dwp_agg_of Try.isAgg38
theorem ra38 {F : Fr} {S : Hp} : rval Try.prog F (isAgg 38) S = some true := rval_agg Try.isAgg38
theorem ze38 {F : Fr} {h : Hp} {K : Value → Hp → Prop} : dwp Try.prog F (zeroValue 38) h K = K (Go.Value.agg #[Go.Value.int Go.IntKind.u8 0, Go.Value.int Go.IntKind.u8 0, Go.Value.int Go.IntKind.u8 0, Go.Value.int Go.IntKind.u8 0, Go.Value.int Go.IntKind.u8 0, Go.Value.int Go.IntKind.u8 0, Go.Value.int Go.IntKind.u8 0, Go.Value.int Go.IntKind.u8 0, Go.Value.int Go.IntKind.u8 0]) h := dwp_zero_of Try.zeroValue38
theorem rz38 {F : Fr} {S : Hp} : rval Try.prog F (zeroValue 38) S = some (Go.Value.agg #[Go.Value.int Go.IntKind.u8 0, Go.Value.int Go.IntKind.u8 0, Go.Value.int Go.IntKind.u8 0, Go.Value.int Go.IntKind.u8 0, Go.Value.int Go.IntKind.u8 0, Go.Value.int Go.IntKind.u8 0, Go.Value.int Go.IntKind.u8 0, Go.Value.int Go.IntKind.u8 0, Go.Value.int Go.IntKind.u8 0]) := rval_zero Try.zeroValue38
theorem un42 {F : Fr} {h : Hp} {K : TypeDesc → Hp → Prop} : dwp Try.prog F (underlying 42) h K = K (Go.TypeDesc.struct #[{ name := "Lead", type := 3, offset := 0, embedded := false, tag := "", pkgPath := "", byteOffset := 0 }, { name := "Thread", type := 3, offset := 1, embedded := false, tag := "", pkgPath := "", byteOffset := 8 }, { name := "Head", type := 3, offset := 2, embedded := false, tag := "", pkgPath := "", byteOffset := 16 }, { name := "OnThread", type := 27, offset := 3, embedded := false, tag := "", pkgPath := "", byteOffset := 24 }, { name := "OnHead", type := 27, offset := 5, embedded := false, tag := "", pkgPath := "", byteOffset := 40 }, { name := "Stiff", type := 27, offset := 7, embedded := false, tag := "", pkgPath := "", byteOffset := 56 }, { name := "Spring", type := 27, offset := 9, embedded := false, tag := "", pkgPath := "", byteOffset := 72 }, { name := "Yield", type := 27, offset := 11, embedded := false, tag := "", pkgPath := "", byteOffset := 88 }]) h := by rw [dwp_underlying, Try.underlying42]; rfl
theorem ru42 {F : Fr} {S : Hp} : rval Try.prog F (underlying 42) S = some (Go.TypeDesc.struct #[{ name := "Lead", type := 3, offset := 0, embedded := false, tag := "", pkgPath := "", byteOffset := 0 }, { name := "Thread", type := 3, offset := 1, embedded := false, tag := "", pkgPath := "", byteOffset := 8 }, { name := "Head", type := 3, offset := 2, embedded := false, tag := "", pkgPath := "", byteOffset := 16 }, { name := "OnThread", type := 27, offset := 3, embedded := false, tag := "", pkgPath := "", byteOffset := 24 }, { name := "OnHead", type := 27, offset := 5, embedded := false, tag := "", pkgPath := "", byteOffset := 40 }, { name := "Stiff", type := 27, offset := 7, embedded := false, tag := "", pkgPath := "", byteOffset := 56 }, { name := "Spring", type := 27, offset := 9, embedded := false, tag := "", pkgPath := "", byteOffset := 72 }, { name := "Yield", type := 27, offset := 11, embedded := false, tag := "", pkgPath := "", byteOffset := 88 }]) := rval_un Try.underlying42
theorem sz42 {F : Fr} {h : Hp} {K : Nat → Hp → Prop} : dwp Try.prog F (sizeOf 42) h K = K 13 h := dwp_size_of Try.sizeOf42
theorem rs42 {F : Fr} {S : Hp} : rval Try.prog F (sizeOf 42) S = some 13 := rval_size Try.sizeOf42
theorem ag42 {F : Fr} {h : Hp} {K : Bool → Hp → Prop} : dwp Try.prog F (isAgg 42) h K = K true h := dwp_agg_of Try.isAgg42
theorem ra42 {F : Fr} {S : Hp} : rval Try.prog F (isAgg 42) S = some true := rval_agg Try.isAgg42
theorem ze42 {F : Fr} {h : Hp} {K : Value → Hp → Prop} : dwp Try.prog F (zeroValue 42) h K = K (Go.Value.agg #[Go.Value.int Go.IntKind.i64 0, Go.Value.int Go.IntKind.i64 0, Go.Value.int Go.IntKind.i64 0, Go.Value.int Go.IntKind.i64 0, Go.Value.int Go.IntKind.i64 0, Go.Value.int Go.IntKind.i64 0, Go.Value.int Go.IntKind.i64 0, Go.Value.int Go.IntKind.i64 0, Go.Value.int Go.IntKind.i64 0, Go.Value.int Go.IntKind.i64 0, Go.Value.int Go.IntKind.i64 0, Go.Value.int Go.IntKind.i64 0, Go.Value.int Go.IntKind.i64 0]) h := dwp_zero_of Try.zeroValue42
theorem rz42 {F : Fr} {S : Hp} : rval Try.prog F (zeroValue 42) S = some (Go.Value.agg #[Go.Value.int Go.IntKind.i64 0, Go.Value.int Go.IntKind.i64 0, Go.Value.int Go.IntKind.i64 0, Go.Value.int Go.IntKind.i64 0, Go.Value.int Go.IntKind.i64 0, Go.Value.int Go.IntKind.i64 0, Go.Value.int Go.IntKind.i64 0, Go.Value.int Go.IntKind.i64 0, Go.Value.int Go.IntKind.i64 0, Go.Value.int Go.IntKind.i64 0, Go.Value.int Go.IntKind.i64 0, Go.Value.int Go.IntKind.i64 0, Go.Value.int Go.IntKind.i64 0]) := rval_zero Try.zeroValue42
theorem un46 {F : Fr} {h : Hp} {K : TypeDesc → Hp → Prop} : dwp Try.prog F (underlying 46) h K = K (Go.TypeDesc.int Go.IntKind.i64) h := by rw [dwp_underlying, Try.underlying46]; rfl
theorem ru46 {F : Fr} {S : Hp} : rval Try.prog F (underlying 46) S = some (Go.TypeDesc.int Go.IntKind.i64) := rval_un Try.underlying46
theorem sz46 {F : Fr} {h : Hp} {K : Nat → Hp → Prop} : dwp Try.prog F (sizeOf 46) h K = K 1 h := dwp_size_of Try.sizeOf46
theorem rs46 {F : Fr} {S : Hp} : rval Try.prog F (sizeOf 46) S = some 1 := rval_size Try.sizeOf46
theorem ag46 {F : Fr} {h : Hp} {K : Bool → Hp → Prop} : dwp Try.prog F (isAgg 46) h K = K false h := dwp_agg_of Try.isAgg46
theorem ra46 {F : Fr} {S : Hp} : rval Try.prog F (isAgg 46) S = some false := rval_agg Try.isAgg46
theorem ze46 {F : Fr} {h : Hp} {K : Value → Hp → Prop} : dwp Try.prog F (zeroValue 46) h K = K (Go.Value.int Go.IntKind.i64 0) h := dwp_zero_of Try.zeroValue46
theorem rz46 {F : Fr} {S : Hp} : rval Try.prog F (zeroValue 46) S = some (Go.Value.int Go.IntKind.i64 0) := rval_zero Try.zeroValue46
theorem un48 {F : Fr} {h : Hp} {K : TypeDesc → Hp → Prop} : dwp Try.prog F (underlying 48) h K = K (Go.TypeDesc.struct #[{ name := "Kind", type := 46, offset := 0, embedded := false, tag := "", pkgPath := "", byteOffset := 0 }, { name := "Torque", type := 27, offset := 1, embedded := false, tag := "", pkgPath := "", byteOffset := 8 }, { name := "Angle", type := 27, offset := 3, embedded := false, tag := "", pkgPath := "", byteOffset := 24 }, { name := "Stretch", type := 27, offset := 5, embedded := false, tag := "", pkgPath := "", byteOffset := 40 }]) h := by rw [dwp_underlying, Try.underlying48]; rfl
theorem ru48 {F : Fr} {S : Hp} : rval Try.prog F (underlying 48) S = some (Go.TypeDesc.struct #[{ name := "Kind", type := 46, offset := 0, embedded := false, tag := "", pkgPath := "", byteOffset := 0 }, { name := "Torque", type := 27, offset := 1, embedded := false, tag := "", pkgPath := "", byteOffset := 8 }, { name := "Angle", type := 27, offset := 3, embedded := false, tag := "", pkgPath := "", byteOffset := 24 }, { name := "Stretch", type := 27, offset := 5, embedded := false, tag := "", pkgPath := "", byteOffset := 40 }]) := rval_un Try.underlying48
theorem sz48 {F : Fr} {h : Hp} {K : Nat → Hp → Prop} : dwp Try.prog F (sizeOf 48) h K = K 7 h := dwp_size_of Try.sizeOf48
theorem rs48 {F : Fr} {S : Hp} : rval Try.prog F (sizeOf 48) S = some 7 := rval_size Try.sizeOf48
theorem ag48 {F : Fr} {h : Hp} {K : Bool → Hp → Prop} : dwp Try.prog F (isAgg 48) h K = K true h := dwp_agg_of Try.isAgg48
theorem ra48 {F : Fr} {S : Hp} : rval Try.prog F (isAgg 48) S = some true := rval_agg Try.isAgg48
theorem ze48 {F : Fr} {h : Hp} {K : Value → Hp → Prop} : dwp Try.prog F (zeroValue 48) h K = K (Go.Value.agg #[Go.Value.int Go.IntKind.i64 0, Go.Value.int Go.IntKind.i64 0, Go.Value.int Go.IntKind.i64 0, Go.Value.int Go.IntKind.i64 0, Go.Value.int Go.IntKind.i64 0, Go.Value.int Go.IntKind.i64 0, Go.Value.int Go.IntKind.i64 0]) h := dwp_zero_of Try.zeroValue48
theorem rz48 {F : Fr} {S : Hp} : rval Try.prog F (zeroValue 48) S = some (Go.Value.agg #[Go.Value.int Go.IntKind.i64 0, Go.Value.int Go.IntKind.i64 0, Go.Value.int Go.IntKind.i64 0, Go.Value.int Go.IntKind.i64 0, Go.Value.int Go.IntKind.i64 0, Go.Value.int Go.IntKind.i64 0, Go.Value.int Go.IntKind.i64 0]) := rval_zero Try.zeroValue48
theorem un50 {F : Fr} {h : Hp} {K : TypeDesc → Hp → Prop} : dwp Try.prog F (underlying 50) h K = K (Go.TypeDesc.func #[42, 48] #[4, 4, 30] false) h := by rw [dwp_underlying, Try.underlying50]; rfl
theorem ru50 {F : Fr} {S : Hp} : rval Try.prog F (underlying 50) S = some (Go.TypeDesc.func #[42, 48] #[4, 4, 30] false) := rval_un Try.underlying50
theorem sz50 {F : Fr} {h : Hp} {K : Nat → Hp → Prop} : dwp Try.prog F (sizeOf 50) h K = K 1 h := dwp_size_of Try.sizeOf50
theorem rs50 {F : Fr} {S : Hp} : rval Try.prog F (sizeOf 50) S = some 1 := rval_size Try.sizeOf50
theorem ag50 {F : Fr} {h : Hp} {K : Bool → Hp → Prop} : dwp Try.prog F (isAgg 50) h K = K false h := dwp_agg_of Try.isAgg50
theorem ra50 {F : Fr} {S : Hp} : rval Try.prog F (isAgg 50) S = some false := rval_agg Try.isAgg50
theorem ze50 {F : Fr} {h : Hp} {K : Value → Hp → Prop} : dwp Try.prog F (zeroValue 50) h K = K Go.Value.nilFunc h := dwp_zero_of Try.zeroValue50
theorem rz50 {F : Fr} {S : Hp} : rval Try.prog F (zeroValue 50) S = some (Go.Value.nilFunc) := rval_zero Try.zeroValue50
theorem un52 {F : Fr} {h : Hp} {K : TypeDesc → Hp → Prop} : dwp Try.prog F (underlying 52) h K = K (Go.TypeDesc.int Go.IntKind.u16) h := by rw [dwp_underlying, Try.underlying52]; rfl
theorem ru52 {F : Fr} {S : Hp} : rval Try.prog F (underlying 52) S = some (Go.TypeDesc.int Go.IntKind.u16) := rval_un Try.underlying52
theorem sz52 {F : Fr} {h : Hp} {K : Nat → Hp → Prop} : dwp Try.prog F (sizeOf 52) h K = K 1 h := dwp_size_of Try.sizeOf52
theorem rs52 {F : Fr} {S : Hp} : rval Try.prog F (sizeOf 52) S = some 1 := rval_size Try.sizeOf52
theorem ag52 {F : Fr} {h : Hp} {K : Bool → Hp → Prop} : dwp Try.prog F (isAgg 52) h K = K false h := dwp_agg_of Try.isAgg52
theorem ra52 {F : Fr} {S : Hp} : rval Try.prog F (isAgg 52) S = some false := rval_agg Try.isAgg52
theorem ze52 {F : Fr} {h : Hp} {K : Value → Hp → Prop} : dwp Try.prog F (zeroValue 52) h K = K (Go.Value.int Go.IntKind.u16 0) h := dwp_zero_of Try.zeroValue52
theorem rz52 {F : Fr} {S : Hp} : rval Try.prog F (zeroValue 52) S = some (Go.Value.int Go.IntKind.u16 0) := rval_zero Try.zeroValue52
theorem un53 {F : Fr} {h : Hp} {K : TypeDesc → Hp → Prop} : dwp Try.prog F (underlying 53) h K = K (Go.TypeDesc.array 2 52) h := by rw [dwp_underlying, Try.underlying53]; rfl
theorem ru53 {F : Fr} {S : Hp} : rval Try.prog F (underlying 53) S = some (Go.TypeDesc.array 2 52) := rval_un Try.underlying53
theorem ix53 {F : Fr} {h : Hp} {a : Addr} {k : IntKind} {i : Int} {K : Value → Hp → Prop} (h1 : 0 ≤ i) (h2 : i < ((2 : Nat) : Int)) : dwp Try.prog F (Instr.indexAt 53 (.pointer (some a)) (.int k i)) h K = K (.pointer (some (a.add (i.toNat * 1)))) h := dwp_ixA Try.underlying53 Try.sizeOf52 h1 h2
theorem rx53 {F : Fr} {S : Hp} {a : Addr} {k : IntKind} {i : Int} (h1 : 0 ≤ i) (h2 : i < ((2 : Nat) : Int)) : rval Try.prog F (Instr.indexAt 53 (.pointer (some a)) (.int k i)) S = some (.pointer (some (a.add (i.toNat * 1)))) := rval_ixA Try.underlying53 Try.sizeOf52 h1 h2
theorem sz53 {F : Fr} {h : Hp} {K : Nat → Hp → Prop} : dwp Try.prog F (sizeOf 53) h K = K 2 h := dwp_size_of Try.sizeOf53
theorem rs53 {F : Fr} {S : Hp} : rval Try.prog F (sizeOf 53) S = some 2 := rval_size Try.sizeOf53
theorem ag53 {F : Fr} {h : Hp} {K : Bool → Hp → Prop} : dwp Try.prog F (isAgg 53) h K = K true h := dwp_agg_of Try.isAgg53
theorem ra53 {F : Fr} {S : Hp} : rval Try.prog F (isAgg 53) S = some true := rval_agg Try.isAgg53
theorem ze53 {F : Fr} {h : Hp} {K : Value → Hp → Prop} : dwp Try.prog F (zeroValue 53) h K = K (Go.Value.agg #[Go.Value.int Go.IntKind.u16 0, Go.Value.int Go.IntKind.u16 0]) h := dwp_zero_of Try.zeroValue53
theorem rz53 {F : Fr} {S : Hp} : rval Try.prog F (zeroValue 53) S = some (Go.Value.agg #[Go.Value.int Go.IntKind.u16 0, Go.Value.int Go.IntKind.u16 0]) := rval_zero Try.zeroValue53
theorem un56 {F : Fr} {h : Hp} {K : TypeDesc → Hp → Prop} : dwp Try.prog F (underlying 56) h K = K (Go.TypeDesc.struct #[{ name := "Num", type := 3, offset := 0, embedded := false, tag := "", pkgPath := "", byteOffset := 0 }, { name := "Den", type := 3, offset := 1, embedded := false, tag := "", pkgPath := "", byteOffset := 8 }]) h := by rw [dwp_underlying, Try.underlying56]; rfl
theorem ru56 {F : Fr} {S : Hp} : rval Try.prog F (underlying 56) S = some (Go.TypeDesc.struct #[{ name := "Num", type := 3, offset := 0, embedded := false, tag := "", pkgPath := "", byteOffset := 0 }, { name := "Den", type := 3, offset := 1, embedded := false, tag := "", pkgPath := "", byteOffset := 8 }]) := rval_un Try.underlying56
theorem sz56 {F : Fr} {h : Hp} {K : Nat → Hp → Prop} : dwp Try.prog F (sizeOf 56) h K = K 2 h := dwp_size_of Try.sizeOf56
theorem rs56 {F : Fr} {S : Hp} : rval Try.prog F (sizeOf 56) S = some 2 := rval_size Try.sizeOf56
theorem ag56 {F : Fr} {h : Hp} {K : Bool → Hp → Prop} : dwp Try.prog F (isAgg 56) h K = K true h := dwp_agg_of Try.isAgg56
theorem ra56 {F : Fr} {S : Hp} : rval Try.prog F (isAgg 56) S = some true := rval_agg Try.isAgg56
theorem ze56 {F : Fr} {h : Hp} {K : Value → Hp → Prop} : dwp Try.prog F (zeroValue 56) h K = K (Go.Value.agg #[Go.Value.int Go.IntKind.i64 0, Go.Value.int Go.IntKind.i64 0]) h := dwp_zero_of Try.zeroValue56
theorem rz56 {F : Fr} {S : Hp} : rval Try.prog F (zeroValue 56) S = some (Go.Value.agg #[Go.Value.int Go.IntKind.i64 0, Go.Value.int Go.IntKind.i64 0]) := rval_zero Try.zeroValue56
theorem un58 {F : Fr} {h : Hp} {K : TypeDesc → Hp → Prop} : dwp Try.prog F (underlying 58) h K = K (Go.TypeDesc.struct #[{ name := "Thick", type := 27, offset := 0, embedded := false, tag := "", pkgPath := "", byteOffset := 0 }, { name := "Grow", type := 56, offset := 2, embedded := false, tag := "", pkgPath := "", byteOffset := 16 }]) h := by rw [dwp_underlying, Try.underlying58]; rfl
theorem ru58 {F : Fr} {S : Hp} : rval Try.prog F (underlying 58) S = some (Go.TypeDesc.struct #[{ name := "Thick", type := 27, offset := 0, embedded := false, tag := "", pkgPath := "", byteOffset := 0 }, { name := "Grow", type := 56, offset := 2, embedded := false, tag := "", pkgPath := "", byteOffset := 16 }]) := rval_un Try.underlying58
theorem sz58 {F : Fr} {h : Hp} {K : Nat → Hp → Prop} : dwp Try.prog F (sizeOf 58) h K = K 4 h := dwp_size_of Try.sizeOf58
theorem rs58 {F : Fr} {S : Hp} : rval Try.prog F (sizeOf 58) S = some 4 := rval_size Try.sizeOf58
theorem ag58 {F : Fr} {h : Hp} {K : Bool → Hp → Prop} : dwp Try.prog F (isAgg 58) h K = K true h := dwp_agg_of Try.isAgg58
theorem ra58 {F : Fr} {S : Hp} : rval Try.prog F (isAgg 58) S = some true := rval_agg Try.isAgg58
theorem ze58 {F : Fr} {h : Hp} {K : Value → Hp → Prop} : dwp Try.prog F (zeroValue 58) h K = K (Go.Value.agg #[Go.Value.int Go.IntKind.i64 0, Go.Value.int Go.IntKind.i64 0, Go.Value.int Go.IntKind.i64 0, Go.Value.int Go.IntKind.i64 0]) h := dwp_zero_of Try.zeroValue58
theorem rz58 {F : Fr} {S : Hp} : rval Try.prog F (zeroValue 58) S = some (Go.Value.agg #[Go.Value.int Go.IntKind.i64 0, Go.Value.int Go.IntKind.i64 0, Go.Value.int Go.IntKind.i64 0, Go.Value.int Go.IntKind.i64 0]) := rval_zero Try.zeroValue58
theorem un60 {F : Fr} {h : Hp} {K : TypeDesc → Hp → Prop} : dwp Try.prog F (underlying 60) h K = K (Go.TypeDesc.array 2 42) h := by rw [dwp_underlying, Try.underlying60]; rfl
theorem ru60 {F : Fr} {S : Hp} : rval Try.prog F (underlying 60) S = some (Go.TypeDesc.array 2 42) := rval_un Try.underlying60
theorem ix60 {F : Fr} {h : Hp} {a : Addr} {k : IntKind} {i : Int} {K : Value → Hp → Prop} (h1 : 0 ≤ i) (h2 : i < ((2 : Nat) : Int)) : dwp Try.prog F (Instr.indexAt 60 (.pointer (some a)) (.int k i)) h K = K (.pointer (some (a.add (i.toNat * 13)))) h := dwp_ixA Try.underlying60 Try.sizeOf42 h1 h2
theorem rx60 {F : Fr} {S : Hp} {a : Addr} {k : IntKind} {i : Int} (h1 : 0 ≤ i) (h2 : i < ((2 : Nat) : Int)) : rval Try.prog F (Instr.indexAt 60 (.pointer (some a)) (.int k i)) S = some (.pointer (some (a.add (i.toNat * 13)))) := rval_ixA Try.underlying60 Try.sizeOf42 h1 h2
theorem sz60 {F : Fr} {h : Hp} {K : Nat → Hp → Prop} : dwp Try.prog F (sizeOf 60) h K = K 26 h := dwp_size_of Try.sizeOf60
theorem rs60 {F : Fr} {S : Hp} : rval Try.prog F (sizeOf 60) S = some 26 := rval_size Try.sizeOf60
theorem ag60 {F : Fr} {h : Hp} {K : Bool → Hp → Prop} : dwp Try.prog F (isAgg 60) h K = K true h := dwp_agg_of Try.isAgg60
theorem ra60 {F : Fr} {S : Hp} : rval Try.prog F (isAgg 60) S = some true := rval_agg Try.isAgg60
theorem ze60 {F : Fr} {h : Hp} {K : Value → Hp → Prop} : dwp Try.prog F (zeroValue 60) h K = K (Go.Value.agg #[Go.Value.int Go.IntKind.i64 0, Go.Value.int Go.IntKind.i64 0, Go.Value.int Go.IntKind.i64 0, Go.Value.int Go.IntKind.i64 0, Go.Value.int Go.IntKind.i64 0, Go.Value.int Go.IntKind.i64 0, Go.Value.int Go.IntKind.i64 0, Go.Value.int Go.IntKind.i64 0, Go.Value.int Go.IntKind.i64 0, Go.Value.int Go.IntKind.i64 0, Go.Value.int Go.IntKind.i64 0, Go.Value.int Go.IntKind.i64 0, Go.Value.int Go.IntKind.i64 0, Go.Value.int Go.IntKind.i64 0, Go.Value.int Go.IntKind.i64 0, Go.Value.int Go.IntKind.i64 0, Go.Value.int Go.IntKind.i64 0, Go.Value.int Go.IntKind.i64 0, Go.Value.int Go.IntKind.i64 0, Go.Value.int Go.IntKind.i64 0, Go.Value.int Go.IntKind.i64 0, Go.Value.int Go.IntKind.i64 0, Go.Value.int Go.IntKind.i64 0, Go.Value.int Go.IntKind.i64 0, Go.Value.int Go.IntKind.i64 0, Go.Value.int Go.IntKind.i64 0]) h := dwp_zero_of Try.zeroValue60
theorem rz60 {F : Fr} {S : Hp} : rval Try.prog F (zeroValue 60) S = some (Go.Value.agg #[Go.Value.int Go.IntKind.i64 0, Go.Value.int Go.IntKind.i64 0, Go.Value.int Go.IntKind.i64 0, Go.Value.int Go.IntKind.i64 0, Go.Value.int Go.IntKind.i64 0, Go.Value.int Go.IntKind.i64 0, Go.Value.int Go.IntKind.i64 0, Go.Value.int Go.IntKind.i64 0, Go.Value.int Go.IntKind.i64 0, Go.Value.int Go.IntKind.i64 0, Go.Value.int Go.IntKind.i64 0, Go.Value.int Go.IntKind.i64 0, Go.Value.int Go.IntKind.i64 0, Go.Value.int Go.IntKind.i64 0, Go.Value.int Go.IntKind.i64 0, Go.Value.int Go.IntKind.i64 0, Go.Value.int Go.IntKind.i64 0, Go.Value.int Go.IntKind.i64 0, Go.Value.int Go.IntKind.i64 0, Go.Value.int Go.IntKind.i64 0, Go.Value.int Go.IntKind.i64 0, Go.Value.int Go.IntKind.i64 0, Go.Value.int Go.IntKind.i64 0, Go.Value.int Go.IntKind.i64 0, Go.Value.int Go.IntKind.i64 0, Go.Value.int Go.IntKind.i64 0]) := rval_zero Try.zeroValue60
theorem un61 {F : Fr} {h : Hp} {K : TypeDesc → Hp → Prop} : dwp Try.prog F (underlying 61) h K = K (Go.TypeDesc.array 2 3) h := by rw [dwp_underlying, Try.underlying61]; rfl
theorem ru61 {F : Fr} {S : Hp} : rval Try.prog F (underlying 61) S = some (Go.TypeDesc.array 2 3) := rval_un Try.underlying61
theorem ix61 {F : Fr} {h : Hp} {a : Addr} {k : IntKind} {i : Int} {K : Value → Hp → Prop} (h1 : 0 ≤ i) (h2 : i < ((2 : Nat) : Int)) : dwp Try.prog F (Instr.indexAt 61 (.pointer (some a)) (.int k i)) h K = K (.pointer (some (a.add (i.toNat * 1)))) h := dwp_ixA Try.underlying61 Try.sizeOf3 h1 h2
theorem rx61 {F : Fr} {S : Hp} {a : Addr} {k : IntKind} {i : Int} (h1 : 0 ≤ i) (h2 : i < ((2 : Nat) : Int)) : rval Try.prog F (Instr.indexAt 61 (.pointer (some a)) (.int k i)) S = some (.pointer (some (a.add (i.toNat * 1)))) := rval_ixA Try.underlying61 Try.sizeOf3 h1 h2
theorem sz61 {F : Fr} {h : Hp} {K : Nat → Hp → Prop} : dwp Try.prog F (sizeOf 61) h K = K 2 h := dwp_size_of Try.sizeOf61
theorem rs61 {F : Fr} {S : Hp} : rval Try.prog F (sizeOf 61) S = some 2 := rval_size Try.sizeOf61
theorem ag61 {F : Fr} {h : Hp} {K : Bool → Hp → Prop} : dwp Try.prog F (isAgg 61) h K = K true h := dwp_agg_of Try.isAgg61
theorem ra61 {F : Fr} {S : Hp} : rval Try.prog F (isAgg 61) S = some true := rval_agg Try.isAgg61
theorem ze61 {F : Fr} {h : Hp} {K : Value → Hp → Prop} : dwp Try.prog F (zeroValue 61) h K = K (Go.Value.agg #[Go.Value.int Go.IntKind.i64 0, Go.Value.int Go.IntKind.i64 0]) h := dwp_zero_of Try.zeroValue61
theorem rz61 {F : Fr} {S : Hp} : rval Try.prog F (zeroValue 61) S = some (Go.Value.agg #[Go.Value.int Go.IntKind.i64 0, Go.Value.int Go.IntKind.i64 0]) := rval_zero Try.zeroValue61
theorem un63 {F : Fr} {h : Hp} {K : TypeDesc → Hp → Prop} : dwp Try.prog F (underlying 63) h K = K (Go.TypeDesc.int Go.IntKind.i8) h := by rw [dwp_underlying, Try.underlying63]; rfl
theorem ru63 {F : Fr} {S : Hp} : rval Try.prog F (underlying 63) S = some (Go.TypeDesc.int Go.IntKind.i8) := rval_un Try.underlying63
theorem sz63 {F : Fr} {h : Hp} {K : Nat → Hp → Prop} : dwp Try.prog F (sizeOf 63) h K = K 1 h := dwp_size_of Try.sizeOf63
theorem rs63 {F : Fr} {S : Hp} : rval Try.prog F (sizeOf 63) S = some 1 := rval_size Try.sizeOf63
theorem ag63 {F : Fr} {h : Hp} {K : Bool → Hp → Prop} : dwp Try.prog F (isAgg 63) h K = K false h := dwp_agg_of Try.isAgg63
theorem ra63 {F : Fr} {S : Hp} : rval Try.prog F (isAgg 63) S = some false := rval_agg Try.isAgg63
theorem ze63 {F : Fr} {h : Hp} {K : Value → Hp → Prop} : dwp Try.prog F (zeroValue 63) h K = K (Go.Value.int Go.IntKind.i8 0) h := dwp_zero_of Try.zeroValue63
theorem rz63 {F : Fr} {S : Hp} : rval Try.prog F (zeroValue 63) S = some (Go.Value.int Go.IntKind.i8 0) := rval_zero Try.zeroValue63
theorem un64 {F : Fr} {h : Hp} {K : TypeDesc → Hp → Prop} : dwp Try.prog F (underlying 64) h K = K (Go.TypeDesc.array 2 63) h := by rw [dwp_underlying, Try.underlying64]; rfl
theorem ru64 {F : Fr} {S : Hp} : rval Try.prog F (underlying 64) S = some (Go.TypeDesc.array 2 63) := rval_un Try.underlying64
theorem ix64 {F : Fr} {h : Hp} {a : Addr} {k : IntKind} {i : Int} {K : Value → Hp → Prop} (h1 : 0 ≤ i) (h2 : i < ((2 : Nat) : Int)) : dwp Try.prog F (Instr.indexAt 64 (.pointer (some a)) (.int k i)) h K = K (.pointer (some (a.add (i.toNat * 1)))) h := dwp_ixA Try.underlying64 Try.sizeOf63 h1 h2
theorem rx64 {F : Fr} {S : Hp} {a : Addr} {k : IntKind} {i : Int} (h1 : 0 ≤ i) (h2 : i < ((2 : Nat) : Int)) : rval Try.prog F (Instr.indexAt 64 (.pointer (some a)) (.int k i)) S = some (.pointer (some (a.add (i.toNat * 1)))) := rval_ixA Try.underlying64 Try.sizeOf63 h1 h2
theorem sz64 {F : Fr} {h : Hp} {K : Nat → Hp → Prop} : dwp Try.prog F (sizeOf 64) h K = K 2 h := dwp_size_of Try.sizeOf64
theorem rs64 {F : Fr} {S : Hp} : rval Try.prog F (sizeOf 64) S = some 2 := rval_size Try.sizeOf64
theorem ag64 {F : Fr} {h : Hp} {K : Bool → Hp → Prop} : dwp Try.prog F (isAgg 64) h K = K true h := dwp_agg_of Try.isAgg64
theorem ra64 {F : Fr} {S : Hp} : rval Try.prog F (isAgg 64) S = some true := rval_agg Try.isAgg64
theorem ze64 {F : Fr} {h : Hp} {K : Value → Hp → Prop} : dwp Try.prog F (zeroValue 64) h K = K (Go.Value.agg #[Go.Value.int Go.IntKind.i8 0, Go.Value.int Go.IntKind.i8 0]) h := dwp_zero_of Try.zeroValue64
theorem rz64 {F : Fr} {S : Hp} : rval Try.prog F (zeroValue 64) S = some (Go.Value.agg #[Go.Value.int Go.IntKind.i8 0, Go.Value.int Go.IntKind.i8 0]) := rval_zero Try.zeroValue64
theorem un66 {F : Fr} {h : Hp} {K : TypeDesc → Hp → Prop} : dwp Try.prog F (underlying 66) h K = K (Go.TypeDesc.struct #[{ name := "Pitch", type := 52, offset := 0, embedded := false, tag := "", pkgPath := "", byteOffset := 0 }, { name := "Left", type := 52, offset := 1, embedded := false, tag := "", pkgPath := "", byteOffset := 2 }, { name := "Right", type := 52, offset := 2, embedded := false, tag := "", pkgPath := "", byteOffset := 4 }, { name := "Depth", type := 64, offset := 3, embedded := false, tag := "", pkgPath := "", byteOffset := 6 }]) h := by rw [dwp_underlying, Try.underlying66]; rfl
theorem ru66 {F : Fr} {S : Hp} : rval Try.prog F (underlying 66) S = some (Go.TypeDesc.struct #[{ name := "Pitch", type := 52, offset := 0, embedded := false, tag := "", pkgPath := "", byteOffset := 0 }, { name := "Left", type := 52, offset := 1, embedded := false, tag := "", pkgPath := "", byteOffset := 2 }, { name := "Right", type := 52, offset := 2, embedded := false, tag := "", pkgPath := "", byteOffset := 4 }, { name := "Depth", type := 64, offset := 3, embedded := false, tag := "", pkgPath := "", byteOffset := 6 }]) := rval_un Try.underlying66
theorem sz66 {F : Fr} {h : Hp} {K : Nat → Hp → Prop} : dwp Try.prog F (sizeOf 66) h K = K 5 h := dwp_size_of Try.sizeOf66
theorem rs66 {F : Fr} {S : Hp} : rval Try.prog F (sizeOf 66) S = some 5 := rval_size Try.sizeOf66
theorem ag66 {F : Fr} {h : Hp} {K : Bool → Hp → Prop} : dwp Try.prog F (isAgg 66) h K = K true h := dwp_agg_of Try.isAgg66
theorem ra66 {F : Fr} {S : Hp} : rval Try.prog F (isAgg 66) S = some true := rval_agg Try.isAgg66
theorem ze66 {F : Fr} {h : Hp} {K : Value → Hp → Prop} : dwp Try.prog F (zeroValue 66) h K = K (Go.Value.agg #[Go.Value.int Go.IntKind.u16 0, Go.Value.int Go.IntKind.u16 0, Go.Value.int Go.IntKind.u16 0, Go.Value.int Go.IntKind.i8 0, Go.Value.int Go.IntKind.i8 0]) h := dwp_zero_of Try.zeroValue66
theorem rz66 {F : Fr} {S : Hp} : rval Try.prog F (zeroValue 66) S = some (Go.Value.agg #[Go.Value.int Go.IntKind.u16 0, Go.Value.int Go.IntKind.u16 0, Go.Value.int Go.IntKind.u16 0, Go.Value.int Go.IntKind.i8 0, Go.Value.int Go.IntKind.i8 0]) := rval_zero Try.zeroValue66
theorem un85 {F : Fr} {h : Hp} {K : TypeDesc → Hp → Prop} : dwp Try.prog F (underlying 85) h K = K (Go.TypeDesc.slice 3) h := by rw [dwp_underlying, Try.underlying85]; rfl
theorem ru85 {F : Fr} {S : Hp} : rval Try.prog F (underlying 85) S = some (Go.TypeDesc.slice 3) := rval_un Try.underlying85
theorem ix85 {F : Fr} {h : Hp} {a : Addr} {n c : Nat} {k : IntKind} {i : Int} {K : Value → Hp → Prop} (h1 : 0 ≤ i) (h2 : i < (n : Int)) : dwp Try.prog F (Instr.indexAt 85 (.slice (some a) n c) (.int k i)) h K = K (.pointer (some (a.add (i.toNat * 1)))) h := dwp_ixS Try.underlying85 Try.sizeOf3 h1 h2
theorem rx85 {F : Fr} {S : Hp} {a : Addr} {n c : Nat} {k : IntKind} {i : Int} (h1 : 0 ≤ i) (h2 : i < (n : Int)) : rval Try.prog F (Instr.indexAt 85 (.slice (some a) n c) (.int k i)) S = some (.pointer (some (a.add (i.toNat * 1)))) := rval_ixS Try.underlying85 Try.sizeOf3 h1 h2
theorem sz85 {F : Fr} {h : Hp} {K : Nat → Hp → Prop} : dwp Try.prog F (sizeOf 85) h K = K 1 h := dwp_size_of Try.sizeOf85
theorem rs85 {F : Fr} {S : Hp} : rval Try.prog F (sizeOf 85) S = some 1 := rval_size Try.sizeOf85
theorem ag85 {F : Fr} {h : Hp} {K : Bool → Hp → Prop} : dwp Try.prog F (isAgg 85) h K = K false h := dwp_agg_of Try.isAgg85
theorem ra85 {F : Fr} {S : Hp} : rval Try.prog F (isAgg 85) S = some false := rval_agg Try.isAgg85
theorem ze85 {F : Fr} {h : Hp} {K : Value → Hp → Prop} : dwp Try.prog F (zeroValue 85) h K = K (Go.Value.slice none 0 0) h := dwp_zero_of Try.zeroValue85
theorem rz85 {F : Fr} {S : Hp} : rval Try.prog F (zeroValue 85) S = some (Go.Value.slice none 0 0) := rval_zero Try.zeroValue85
theorem un89 {F : Fr} {h : Hp} {K : TypeDesc → Hp → Prop} : dwp Try.prog F (underlying 89) h K = K (Go.TypeDesc.slice 27) h := by rw [dwp_underlying, Try.underlying89]; rfl
theorem ru89 {F : Fr} {S : Hp} : rval Try.prog F (underlying 89) S = some (Go.TypeDesc.slice 27) := rval_un Try.underlying89
theorem ix89 {F : Fr} {h : Hp} {a : Addr} {n c : Nat} {k : IntKind} {i : Int} {K : Value → Hp → Prop} (h1 : 0 ≤ i) (h2 : i < (n : Int)) : dwp Try.prog F (Instr.indexAt 89 (.slice (some a) n c) (.int k i)) h K = K (.pointer (some (a.add (i.toNat * 2)))) h := dwp_ixS Try.underlying89 Try.sizeOf27 h1 h2
theorem rx89 {F : Fr} {S : Hp} {a : Addr} {n c : Nat} {k : IntKind} {i : Int} (h1 : 0 ≤ i) (h2 : i < (n : Int)) : rval Try.prog F (Instr.indexAt 89 (.slice (some a) n c) (.int k i)) S = some (.pointer (some (a.add (i.toNat * 2)))) := rval_ixS Try.underlying89 Try.sizeOf27 h1 h2
theorem sz89 {F : Fr} {h : Hp} {K : Nat → Hp → Prop} : dwp Try.prog F (sizeOf 89) h K = K 1 h := dwp_size_of Try.sizeOf89
theorem rs89 {F : Fr} {S : Hp} : rval Try.prog F (sizeOf 89) S = some 1 := rval_size Try.sizeOf89
theorem ag89 {F : Fr} {h : Hp} {K : Bool → Hp → Prop} : dwp Try.prog F (isAgg 89) h K = K false h := dwp_agg_of Try.isAgg89
theorem ra89 {F : Fr} {S : Hp} : rval Try.prog F (isAgg 89) S = some false := rval_agg Try.isAgg89
theorem ze89 {F : Fr} {h : Hp} {K : Value → Hp → Prop} : dwp Try.prog F (zeroValue 89) h K = K (Go.Value.slice none 0 0) h := dwp_zero_of Try.zeroValue89
theorem rz89 {F : Fr} {S : Hp} : rval Try.prog F (zeroValue 89) S = some (Go.Value.slice none 0 0) := rval_zero Try.zeroValue89
theorem un90 {F : Fr} {h : Hp} {K : TypeDesc → Hp → Prop} : dwp Try.prog F (underlying 90) h K = K (Go.TypeDesc.struct #[{ name := "Forces", type := 89, offset := 0, embedded := false, tag := "", pkgPath := "", byteOffset := 0 }, { name := "Most", type := 3, offset := 1, embedded := false, tag := "", pkgPath := "", byteOffset := 24 }, { name := "Lost", type := 89, offset := 2, embedded := false, tag := "", pkgPath := "", byteOffset := 32 }]) h := by rw [dwp_underlying, Try.underlying90]; rfl
theorem ru90 {F : Fr} {S : Hp} : rval Try.prog F (underlying 90) S = some (Go.TypeDesc.struct #[{ name := "Forces", type := 89, offset := 0, embedded := false, tag := "", pkgPath := "", byteOffset := 0 }, { name := "Most", type := 3, offset := 1, embedded := false, tag := "", pkgPath := "", byteOffset := 24 }, { name := "Lost", type := 89, offset := 2, embedded := false, tag := "", pkgPath := "", byteOffset := 32 }]) := rval_un Try.underlying90
theorem sz90 {F : Fr} {h : Hp} {K : Nat → Hp → Prop} : dwp Try.prog F (sizeOf 90) h K = K 3 h := dwp_size_of Try.sizeOf90
theorem rs90 {F : Fr} {S : Hp} : rval Try.prog F (sizeOf 90) S = some 3 := rval_size Try.sizeOf90
theorem ag90 {F : Fr} {h : Hp} {K : Bool → Hp → Prop} : dwp Try.prog F (isAgg 90) h K = K true h := dwp_agg_of Try.isAgg90
theorem ra90 {F : Fr} {S : Hp} : rval Try.prog F (isAgg 90) S = some true := rval_agg Try.isAgg90
theorem ze90 {F : Fr} {h : Hp} {K : Value → Hp → Prop} : dwp Try.prog F (zeroValue 90) h K = K (Go.Value.agg #[Go.Value.slice none 0 0, Go.Value.int Go.IntKind.i64 0, Go.Value.slice none 0 0]) h := dwp_zero_of Try.zeroValue90
theorem rz90 {F : Fr} {S : Hp} : rval Try.prog F (zeroValue 90) S = some (Go.Value.agg #[Go.Value.slice none 0 0, Go.Value.int Go.IntKind.i64 0, Go.Value.slice none 0 0]) := rval_zero Try.zeroValue90
theorem un100 {F : Fr} {h : Hp} {K : TypeDesc → Hp → Prop} : dwp Try.prog F (underlying 100) h K = K (Go.TypeDesc.array 6 5) h := by rw [dwp_underlying, Try.underlying100]; rfl
theorem ru100 {F : Fr} {S : Hp} : rval Try.prog F (underlying 100) S = some (Go.TypeDesc.array 6 5) := rval_un Try.underlying100
theorem ix100 {F : Fr} {h : Hp} {a : Addr} {k : IntKind} {i : Int} {K : Value → Hp → Prop} (h1 : 0 ≤ i) (h2 : i < ((6 : Nat) : Int)) : dwp Try.prog F (Instr.indexAt 100 (.pointer (some a)) (.int k i)) h K = K (.pointer (some (a.add (i.toNat * 1)))) h := dwp_ixA Try.underlying100 Try.sizeOf5 h1 h2
theorem rx100 {F : Fr} {S : Hp} {a : Addr} {k : IntKind} {i : Int} (h1 : 0 ≤ i) (h2 : i < ((6 : Nat) : Int)) : rval Try.prog F (Instr.indexAt 100 (.pointer (some a)) (.int k i)) S = some (.pointer (some (a.add (i.toNat * 1)))) := rval_ixA Try.underlying100 Try.sizeOf5 h1 h2
theorem sz100 {F : Fr} {h : Hp} {K : Nat → Hp → Prop} : dwp Try.prog F (sizeOf 100) h K = K 6 h := dwp_size_of Try.sizeOf100
theorem rs100 {F : Fr} {S : Hp} : rval Try.prog F (sizeOf 100) S = some 6 := rval_size Try.sizeOf100
theorem ag100 {F : Fr} {h : Hp} {K : Bool → Hp → Prop} : dwp Try.prog F (isAgg 100) h K = K true h := dwp_agg_of Try.isAgg100
theorem ra100 {F : Fr} {S : Hp} : rval Try.prog F (isAgg 100) S = some true := rval_agg Try.isAgg100
theorem ze100 {F : Fr} {h : Hp} {K : Value → Hp → Prop} : dwp Try.prog F (zeroValue 100) h K = K (Go.Value.agg #[Go.Value.int Go.IntKind.u8 0, Go.Value.int Go.IntKind.u8 0, Go.Value.int Go.IntKind.u8 0, Go.Value.int Go.IntKind.u8 0, Go.Value.int Go.IntKind.u8 0, Go.Value.int Go.IntKind.u8 0]) h := dwp_zero_of Try.zeroValue100
theorem rz100 {F : Fr} {S : Hp} : rval Try.prog F (zeroValue 100) S = some (Go.Value.agg #[Go.Value.int Go.IntKind.u8 0, Go.Value.int Go.IntKind.u8 0, Go.Value.int Go.IntKind.u8 0, Go.Value.int Go.IntKind.u8 0, Go.Value.int Go.IntKind.u8 0, Go.Value.int Go.IntKind.u8 0]) := rval_zero Try.zeroValue100
theorem un103 {F : Fr} {h : Hp} {K : TypeDesc → Hp → Prop} : dwp Try.prog F (underlying 103) h K = K (Go.TypeDesc.struct #[{ name := "Country", type := 3, offset := 0, embedded := false, tag := "", pkgPath := "", byteOffset := 0 }, { name := "Years", type := 27, offset := 1, embedded := false, tag := "", pkgPath := "", byteOffset := 8 }, { name := "Form", type := 24, offset := 3, embedded := false, tag := "", pkgPath := "", byteOffset := 24 }, { name := "Screw", type := 27, offset := 11, embedded := false, tag := "", pkgPath := "", byteOffset := 88 }, { name := "Nut", type := 27, offset := 13, embedded := false, tag := "", pkgPath := "", byteOffset := 104 }]) h := by rw [dwp_underlying, Try.underlying103]; rfl
theorem ru103 {F : Fr} {S : Hp} : rval Try.prog F (underlying 103) S = some (Go.TypeDesc.struct #[{ name := "Country", type := 3, offset := 0, embedded := false, tag := "", pkgPath := "", byteOffset := 0 }, { name := "Years", type := 27, offset := 1, embedded := false, tag := "", pkgPath := "", byteOffset := 8 }, { name := "Form", type := 24, offset := 3, embedded := false, tag := "", pkgPath := "", byteOffset := 24 }, { name := "Screw", type := 27, offset := 11, embedded := false, tag := "", pkgPath := "", byteOffset := 88 }, { name := "Nut", type := 27, offset := 13, embedded := false, tag := "", pkgPath := "", byteOffset := 104 }]) := rval_un Try.underlying103
theorem sz103 {F : Fr} {h : Hp} {K : Nat → Hp → Prop} : dwp Try.prog F (sizeOf 103) h K = K 15 h := dwp_size_of Try.sizeOf103
theorem rs103 {F : Fr} {S : Hp} : rval Try.prog F (sizeOf 103) S = some 15 := rval_size Try.sizeOf103
theorem ag103 {F : Fr} {h : Hp} {K : Bool → Hp → Prop} : dwp Try.prog F (isAgg 103) h K = K true h := dwp_agg_of Try.isAgg103
theorem ra103 {F : Fr} {S : Hp} : rval Try.prog F (isAgg 103) S = some true := rval_agg Try.isAgg103
theorem ze103 {F : Fr} {h : Hp} {K : Value → Hp → Prop} : dwp Try.prog F (zeroValue 103) h K = K (Go.Value.agg #[Go.Value.int Go.IntKind.i64 0, Go.Value.int Go.IntKind.i64 0, Go.Value.int Go.IntKind.i64 0, Go.Value.int Go.IntKind.i64 0, Go.Value.int Go.IntKind.i64 0, Go.Value.int Go.IntKind.i64 0, Go.Value.int Go.IntKind.i64 0, Go.Value.int Go.IntKind.i64 0, Go.Value.int Go.IntKind.i64 0, Go.Value.bool false, Go.Value.int Go.IntKind.i64 0, Go.Value.int Go.IntKind.i64 0, Go.Value.int Go.IntKind.i64 0, Go.Value.int Go.IntKind.i64 0, Go.Value.int Go.IntKind.i64 0]) h := dwp_zero_of Try.zeroValue103
theorem rz103 {F : Fr} {S : Hp} : rval Try.prog F (zeroValue 103) S = some (Go.Value.agg #[Go.Value.int Go.IntKind.i64 0, Go.Value.int Go.IntKind.i64 0, Go.Value.int Go.IntKind.i64 0, Go.Value.int Go.IntKind.i64 0, Go.Value.int Go.IntKind.i64 0, Go.Value.int Go.IntKind.i64 0, Go.Value.int Go.IntKind.i64 0, Go.Value.int Go.IntKind.i64 0, Go.Value.int Go.IntKind.i64 0, Go.Value.bool false, Go.Value.int Go.IntKind.i64 0, Go.Value.int Go.IntKind.i64 0, Go.Value.int Go.IntKind.i64 0, Go.Value.int Go.IntKind.i64 0, Go.Value.int Go.IntKind.i64 0]) := rval_zero Try.zeroValue103
theorem un105 {F : Fr} {h : Hp} {K : TypeDesc → Hp → Prop} : dwp Try.prog F (underlying 105) h K = K (Go.TypeDesc.struct #[{ name := "Down", type := 4, offset := 0, embedded := false, tag := "", pkgPath := "", byteOffset := 0 }, { name := "Set", type := 27, offset := 1, embedded := false, tag := "", pkgPath := "", byteOffset := 8 }, { name := "Scatter", type := 27, offset := 3, embedded := false, tag := "", pkgPath := "", byteOffset := 24 }, { name := "Wears", type := 89, offset := 5, embedded := false, tag := "", pkgPath := "", byteOffset := 40 }]) h := by rw [dwp_underlying, Try.underlying105]; rfl
theorem ru105 {F : Fr} {S : Hp} : rval Try.prog F (underlying 105) S = some (Go.TypeDesc.struct #[{ name := "Down", type := 4, offset := 0, embedded := false, tag := "", pkgPath := "", byteOffset := 0 }, { name := "Set", type := 27, offset := 1, embedded := false, tag := "", pkgPath := "", byteOffset := 8 }, { name := "Scatter", type := 27, offset := 3, embedded := false, tag := "", pkgPath := "", byteOffset := 24 }, { name := "Wears", type := 89, offset := 5, embedded := false, tag := "", pkgPath := "", byteOffset := 40 }]) := rval_un Try.underlying105
theorem sz105 {F : Fr} {h : Hp} {K : Nat → Hp → Prop} : dwp Try.prog F (sizeOf 105) h K = K 6 h := dwp_size_of Try.sizeOf105
theorem rs105 {F : Fr} {S : Hp} : rval Try.prog F (sizeOf 105) S = some 6 := rval_size Try.sizeOf105
theorem ag105 {F : Fr} {h : Hp} {K : Bool → Hp → Prop} : dwp Try.prog F (isAgg 105) h K = K true h := dwp_agg_of Try.isAgg105
theorem ra105 {F : Fr} {S : Hp} : rval Try.prog F (isAgg 105) S = some true := rval_agg Try.isAgg105
theorem ze105 {F : Fr} {h : Hp} {K : Value → Hp → Prop} : dwp Try.prog F (zeroValue 105) h K = K (Go.Value.agg #[Go.Value.bool false, Go.Value.int Go.IntKind.i64 0, Go.Value.int Go.IntKind.i64 0, Go.Value.int Go.IntKind.i64 0, Go.Value.int Go.IntKind.i64 0, Go.Value.slice none 0 0]) h := dwp_zero_of Try.zeroValue105
theorem rz105 {F : Fr} {S : Hp} : rval Try.prog F (zeroValue 105) S = some (Go.Value.agg #[Go.Value.bool false, Go.Value.int Go.IntKind.i64 0, Go.Value.int Go.IntKind.i64 0, Go.Value.int Go.IntKind.i64 0, Go.Value.int Go.IntKind.i64 0, Go.Value.slice none 0 0]) := rval_zero Try.zeroValue105
theorem un107 {F : Fr} {h : Hp} {K : TypeDesc → Hp → Prop} : dwp Try.prog F (underlying 107) h K = K (Go.TypeDesc.struct #[{ name := "Pieces", type := 3, offset := 0, embedded := false, tag := "", pkgPath := "", byteOffset := 0 }, { name := "Steel", type := 3, offset := 1, embedded := false, tag := "", pkgPath := "", byteOffset := 8 }, { name := "Zone", type := 27, offset := 2, embedded := false, tag := "", pkgPath := "", byteOffset := 16 }]) h := by rw [dwp_underlying, Try.underlying107]; rfl
theorem ru107 {F : Fr} {S : Hp} : rval Try.prog F (underlying 107) S = some (Go.TypeDesc.struct #[{ name := "Pieces", type := 3, offset := 0, embedded := false, tag := "", pkgPath := "", byteOffset := 0 }, { name := "Steel", type := 3, offset := 1, embedded := false, tag := "", pkgPath := "", byteOffset := 8 }, { name := "Zone", type := 27, offset := 2, embedded := false, tag := "", pkgPath := "", byteOffset := 16 }]) := rval_un Try.underlying107
theorem sz107 {F : Fr} {h : Hp} {K : Nat → Hp → Prop} : dwp Try.prog F (sizeOf 107) h K = K 4 h := dwp_size_of Try.sizeOf107
theorem rs107 {F : Fr} {S : Hp} : rval Try.prog F (sizeOf 107) S = some 4 := rval_size Try.sizeOf107
theorem ag107 {F : Fr} {h : Hp} {K : Bool → Hp → Prop} : dwp Try.prog F (isAgg 107) h K = K true h := dwp_agg_of Try.isAgg107
theorem ra107 {F : Fr} {S : Hp} : rval Try.prog F (isAgg 107) S = some true := rval_agg Try.isAgg107
theorem ze107 {F : Fr} {h : Hp} {K : Value → Hp → Prop} : dwp Try.prog F (zeroValue 107) h K = K (Go.Value.agg #[Go.Value.int Go.IntKind.i64 0, Go.Value.int Go.IntKind.i64 0, Go.Value.int Go.IntKind.i64 0, Go.Value.int Go.IntKind.i64 0]) h := dwp_zero_of Try.zeroValue107
theorem rz107 {F : Fr} {S : Hp} : rval Try.prog F (zeroValue 107) S = some (Go.Value.agg #[Go.Value.int Go.IntKind.i64 0, Go.Value.int Go.IntKind.i64 0, Go.Value.int Go.IntKind.i64 0, Go.Value.int Go.IntKind.i64 0]) := rval_zero Try.zeroValue107
theorem un110 {F : Fr} {h : Hp} {K : TypeDesc → Hp → Prop} : dwp Try.prog F (underlying 110) h K = K (Go.TypeDesc.func #[105, 111] #[108, 30] false) h := by rw [dwp_underlying, Try.underlying110]; rfl
theorem ru110 {F : Fr} {S : Hp} : rval Try.prog F (underlying 110) S = some (Go.TypeDesc.func #[105, 111] #[108, 30] false) := rval_un Try.underlying110
theorem sz110 {F : Fr} {h : Hp} {K : Nat → Hp → Prop} : dwp Try.prog F (sizeOf 110) h K = K 1 h := dwp_size_of Try.sizeOf110
theorem rs110 {F : Fr} {S : Hp} : rval Try.prog F (sizeOf 110) S = some 1 := rval_size Try.sizeOf110
theorem ag110 {F : Fr} {h : Hp} {K : Bool → Hp → Prop} : dwp Try.prog F (isAgg 110) h K = K false h := dwp_agg_of Try.isAgg110
theorem ra110 {F : Fr} {S : Hp} : rval Try.prog F (isAgg 110) S = some false := rval_agg Try.isAgg110
theorem ze110 {F : Fr} {h : Hp} {K : Value → Hp → Prop} : dwp Try.prog F (zeroValue 110) h K = K Go.Value.nilFunc h := dwp_zero_of Try.zeroValue110
theorem rz110 {F : Fr} {S : Hp} : rval Try.prog F (zeroValue 110) S = some (Go.Value.nilFunc) := rval_zero Try.zeroValue110
theorem un111 {F : Fr} {h : Hp} {K : TypeDesc → Hp → Prop} : dwp Try.prog F (underlying 111) h K = K (Go.TypeDesc.slice 107) h := by rw [dwp_underlying, Try.underlying111]; rfl
theorem ru111 {F : Fr} {S : Hp} : rval Try.prog F (underlying 111) S = some (Go.TypeDesc.slice 107) := rval_un Try.underlying111
theorem ix111 {F : Fr} {h : Hp} {a : Addr} {n c : Nat} {k : IntKind} {i : Int} {K : Value → Hp → Prop} (h1 : 0 ≤ i) (h2 : i < (n : Int)) : dwp Try.prog F (Instr.indexAt 111 (.slice (some a) n c) (.int k i)) h K = K (.pointer (some (a.add (i.toNat * 4)))) h := dwp_ixS Try.underlying111 Try.sizeOf107 h1 h2
theorem rx111 {F : Fr} {S : Hp} {a : Addr} {n c : Nat} {k : IntKind} {i : Int} (h1 : 0 ≤ i) (h2 : i < (n : Int)) : rval Try.prog F (Instr.indexAt 111 (.slice (some a) n c) (.int k i)) S = some (.pointer (some (a.add (i.toNat * 4)))) := rval_ixS Try.underlying111 Try.sizeOf107 h1 h2
theorem sz111 {F : Fr} {h : Hp} {K : Nat → Hp → Prop} : dwp Try.prog F (sizeOf 111) h K = K 1 h := dwp_size_of Try.sizeOf111
theorem rs111 {F : Fr} {S : Hp} : rval Try.prog F (sizeOf 111) S = some 1 := rval_size Try.sizeOf111
theorem ag111 {F : Fr} {h : Hp} {K : Bool → Hp → Prop} : dwp Try.prog F (isAgg 111) h K = K false h := dwp_agg_of Try.isAgg111
theorem ra111 {F : Fr} {S : Hp} : rval Try.prog F (isAgg 111) S = some false := rval_agg Try.isAgg111
theorem ze111 {F : Fr} {h : Hp} {K : Value → Hp → Prop} : dwp Try.prog F (zeroValue 111) h K = K (Go.Value.slice none 0 0) h := dwp_zero_of Try.zeroValue111
theorem rz111 {F : Fr} {S : Hp} : rval Try.prog F (zeroValue 111) S = some (Go.Value.slice none 0 0) := rval_zero Try.zeroValue111
theorem un120 {F : Fr} {h : Hp} {K : TypeDesc → Hp → Prop} : dwp Try.prog F (underlying 120) h K = K (Go.TypeDesc.func #[100, 101] #[4] false) h := by rw [dwp_underlying, Try.underlying120]; rfl
theorem ru120 {F : Fr} {S : Hp} : rval Try.prog F (underlying 120) S = some (Go.TypeDesc.func #[100, 101] #[4] false) := rval_un Try.underlying120
theorem sz120 {F : Fr} {h : Hp} {K : Nat → Hp → Prop} : dwp Try.prog F (sizeOf 120) h K = K 1 h := dwp_size_of Try.sizeOf120
theorem rs120 {F : Fr} {S : Hp} : rval Try.prog F (sizeOf 120) S = some 1 := rval_size Try.sizeOf120
theorem ag120 {F : Fr} {h : Hp} {K : Bool → Hp → Prop} : dwp Try.prog F (isAgg 120) h K = K false h := dwp_agg_of Try.isAgg120
theorem ra120 {F : Fr} {S : Hp} : rval Try.prog F (isAgg 120) S = some false := rval_agg Try.isAgg120
theorem ze120 {F : Fr} {h : Hp} {K : Value → Hp → Prop} : dwp Try.prog F (zeroValue 120) h K = K Go.Value.nilFunc h := dwp_zero_of Try.zeroValue120
theorem rz120 {F : Fr} {S : Hp} : rval Try.prog F (zeroValue 120) S = some (Go.Value.nilFunc) := rval_zero Try.zeroValue120
theorem un128 {F : Fr} {h : Hp} {K : TypeDesc → Hp → Prop} : dwp Try.prog F (underlying 128) h K = K (Go.TypeDesc.slice 48) h := by rw [dwp_underlying, Try.underlying128]; rfl
theorem ru128 {F : Fr} {S : Hp} : rval Try.prog F (underlying 128) S = some (Go.TypeDesc.slice 48) := rval_un Try.underlying128
theorem ix128 {F : Fr} {h : Hp} {a : Addr} {n c : Nat} {k : IntKind} {i : Int} {K : Value → Hp → Prop} (h1 : 0 ≤ i) (h2 : i < (n : Int)) : dwp Try.prog F (Instr.indexAt 128 (.slice (some a) n c) (.int k i)) h K = K (.pointer (some (a.add (i.toNat * 7)))) h := dwp_ixS Try.underlying128 Try.sizeOf48 h1 h2
theorem rx128 {F : Fr} {S : Hp} {a : Addr} {n c : Nat} {k : IntKind} {i : Int} (h1 : 0 ≤ i) (h2 : i < (n : Int)) : rval Try.prog F (Instr.indexAt 128 (.slice (some a) n c) (.int k i)) S = some (.pointer (some (a.add (i.toNat * 7)))) := rval_ixS Try.underlying128 Try.sizeOf48 h1 h2
theorem sz128 {F : Fr} {h : Hp} {K : Nat → Hp → Prop} : dwp Try.prog F (sizeOf 128) h K = K 1 h := dwp_size_of Try.sizeOf128
theorem rs128 {F : Fr} {S : Hp} : rval Try.prog F (sizeOf 128) S = some 1 := rval_size Try.sizeOf128
theorem ag128 {F : Fr} {h : Hp} {K : Bool → Hp → Prop} : dwp Try.prog F (isAgg 128) h K = K false h := dwp_agg_of Try.isAgg128
theorem ra128 {F : Fr} {S : Hp} : rval Try.prog F (isAgg 128) S = some false := rval_agg Try.isAgg128
theorem ze128 {F : Fr} {h : Hp} {K : Value → Hp → Prop} : dwp Try.prog F (zeroValue 128) h K = K (Go.Value.slice none 0 0) h := dwp_zero_of Try.zeroValue128
theorem rz128 {F : Fr} {S : Hp} : rval Try.prog F (zeroValue 128) S = some (Go.Value.slice none 0 0) := rval_zero Try.zeroValue128
theorem un146 {F : Fr} {h : Hp} {K : TypeDesc → Hp → Prop} : dwp Try.prog F (underlying 146) h K = K (Go.TypeDesc.slice 103) h := by rw [dwp_underlying, Try.underlying146]; rfl
theorem ru146 {F : Fr} {S : Hp} : rval Try.prog F (underlying 146) S = some (Go.TypeDesc.slice 103) := rval_un Try.underlying146
theorem ix146 {F : Fr} {h : Hp} {a : Addr} {n c : Nat} {k : IntKind} {i : Int} {K : Value → Hp → Prop} (h1 : 0 ≤ i) (h2 : i < (n : Int)) : dwp Try.prog F (Instr.indexAt 146 (.slice (some a) n c) (.int k i)) h K = K (.pointer (some (a.add (i.toNat * 15)))) h := dwp_ixS Try.underlying146 Try.sizeOf103 h1 h2
theorem rx146 {F : Fr} {S : Hp} {a : Addr} {n c : Nat} {k : IntKind} {i : Int} (h1 : 0 ≤ i) (h2 : i < (n : Int)) : rval Try.prog F (Instr.indexAt 146 (.slice (some a) n c) (.int k i)) S = some (.pointer (some (a.add (i.toNat * 15)))) := rval_ixS Try.underlying146 Try.sizeOf103 h1 h2
theorem sz146 {F : Fr} {h : Hp} {K : Nat → Hp → Prop} : dwp Try.prog F (sizeOf 146) h K = K 1 h := dwp_size_of Try.sizeOf146
theorem rs146 {F : Fr} {S : Hp} : rval Try.prog F (sizeOf 146) S = some 1 := rval_size Try.sizeOf146
theorem ag146 {F : Fr} {h : Hp} {K : Bool → Hp → Prop} : dwp Try.prog F (isAgg 146) h K = K false h := dwp_agg_of Try.isAgg146
theorem ra146 {F : Fr} {S : Hp} : rval Try.prog F (isAgg 146) S = some false := rval_agg Try.isAgg146
theorem ze146 {F : Fr} {h : Hp} {K : Value → Hp → Prop} : dwp Try.prog F (zeroValue 146) h K = K (Go.Value.slice none 0 0) h := dwp_zero_of Try.zeroValue146
theorem rz146 {F : Fr} {S : Hp} : rval Try.prog F (zeroValue 146) S = some (Go.Value.slice none 0 0) := rval_zero Try.zeroValue146
theorem un150 {F : Fr} {h : Hp} {K : TypeDesc → Hp → Prop} : dwp Try.prog F (underlying 150) h K = K (Go.TypeDesc.slice 157) h := by rw [dwp_underlying, Try.underlying150]; rfl
theorem ru150 {F : Fr} {S : Hp} : rval Try.prog F (underlying 150) S = some (Go.TypeDesc.slice 157) := rval_un Try.underlying150
theorem ix150 {F : Fr} {h : Hp} {a : Addr} {n c : Nat} {k : IntKind} {i : Int} {K : Value → Hp → Prop} (h1 : 0 ≤ i) (h2 : i < (n : Int)) : dwp Try.prog F (Instr.indexAt 150 (.slice (some a) n c) (.int k i)) h K = K (.pointer (some (a.add (i.toNat * 3)))) h := dwp_ixS Try.underlying150 Try.sizeOf157 h1 h2
theorem rx150 {F : Fr} {S : Hp} {a : Addr} {n c : Nat} {k : IntKind} {i : Int} (h1 : 0 ≤ i) (h2 : i < (n : Int)) : rval Try.prog F (Instr.indexAt 150 (.slice (some a) n c) (.int k i)) S = some (.pointer (some (a.add (i.toNat * 3)))) := rval_ixS Try.underlying150 Try.sizeOf157 h1 h2
theorem sz150 {F : Fr} {h : Hp} {K : Nat → Hp → Prop} : dwp Try.prog F (sizeOf 150) h K = K 1 h := dwp_size_of Try.sizeOf150
theorem rs150 {F : Fr} {S : Hp} : rval Try.prog F (sizeOf 150) S = some 1 := rval_size Try.sizeOf150
theorem ag150 {F : Fr} {h : Hp} {K : Bool → Hp → Prop} : dwp Try.prog F (isAgg 150) h K = K false h := dwp_agg_of Try.isAgg150
theorem ra150 {F : Fr} {S : Hp} : rval Try.prog F (isAgg 150) S = some false := rval_agg Try.isAgg150
theorem ze150 {F : Fr} {h : Hp} {K : Value → Hp → Prop} : dwp Try.prog F (zeroValue 150) h K = K (Go.Value.slice none 0 0) h := dwp_zero_of Try.zeroValue150
theorem rz150 {F : Fr} {S : Hp} : rval Try.prog F (zeroValue 150) S = some (Go.Value.slice none 0 0) := rval_zero Try.zeroValue150
theorem un155 {F : Fr} {h : Hp} {K : TypeDesc → Hp → Prop} : dwp Try.prog F (underlying 155) h K = K (Go.TypeDesc.int Go.IntKind.i64) h := by rw [dwp_underlying, Try.underlying155]; rfl
theorem ru155 {F : Fr} {S : Hp} : rval Try.prog F (underlying 155) S = some (Go.TypeDesc.int Go.IntKind.i64) := rval_un Try.underlying155
theorem sz155 {F : Fr} {h : Hp} {K : Nat → Hp → Prop} : dwp Try.prog F (sizeOf 155) h K = K 1 h := dwp_size_of Try.sizeOf155
theorem rs155 {F : Fr} {S : Hp} : rval Try.prog F (sizeOf 155) S = some 1 := rval_size Try.sizeOf155
theorem ag155 {F : Fr} {h : Hp} {K : Bool → Hp → Prop} : dwp Try.prog F (isAgg 155) h K = K false h := dwp_agg_of Try.isAgg155
theorem ra155 {F : Fr} {S : Hp} : rval Try.prog F (isAgg 155) S = some false := rval_agg Try.isAgg155
theorem ze155 {F : Fr} {h : Hp} {K : Value → Hp → Prop} : dwp Try.prog F (zeroValue 155) h K = K (Go.Value.int Go.IntKind.i64 0) h := dwp_zero_of Try.zeroValue155
theorem rz155 {F : Fr} {S : Hp} : rval Try.prog F (zeroValue 155) S = some (Go.Value.int Go.IntKind.i64 0) := rval_zero Try.zeroValue155
theorem un157 {F : Fr} {h : Hp} {K : TypeDesc → Hp → Prop} : dwp Try.prog F (underlying 157) h K = K (Go.TypeDesc.struct #[{ name := "Kind", type := 155, offset := 0, embedded := false, tag := "", pkgPath := "", byteOffset := 0 }, { name := "Machine", type := 3, offset := 1, embedded := false, tag := "", pkgPath := "", byteOffset := 8 }, { name := "Number", type := 3, offset := 2, embedded := false, tag := "", pkgPath := "", byteOffset := 16 }]) h := by rw [dwp_underlying, Try.underlying157]; rfl
theorem ru157 {F : Fr} {S : Hp} : rval Try.prog F (underlying 157) S = some (Go.TypeDesc.struct #[{ name := "Kind", type := 155, offset := 0, embedded := false, tag := "", pkgPath := "", byteOffset := 0 }, { name := "Machine", type := 3, offset := 1, embedded := false, tag := "", pkgPath := "", byteOffset := 8 }, { name := "Number", type := 3, offset := 2, embedded := false, tag := "", pkgPath := "", byteOffset := 16 }]) := rval_un Try.underlying157
theorem sz157 {F : Fr} {h : Hp} {K : Nat → Hp → Prop} : dwp Try.prog F (sizeOf 157) h K = K 3 h := dwp_size_of Try.sizeOf157
theorem rs157 {F : Fr} {S : Hp} : rval Try.prog F (sizeOf 157) S = some 3 := rval_size Try.sizeOf157
theorem ag157 {F : Fr} {h : Hp} {K : Bool → Hp → Prop} : dwp Try.prog F (isAgg 157) h K = K true h := dwp_agg_of Try.isAgg157
theorem ra157 {F : Fr} {S : Hp} : rval Try.prog F (isAgg 157) S = some true := rval_agg Try.isAgg157
theorem ze157 {F : Fr} {h : Hp} {K : Value → Hp → Prop} : dwp Try.prog F (zeroValue 157) h K = K (Go.Value.agg #[Go.Value.int Go.IntKind.i64 0, Go.Value.int Go.IntKind.i64 0, Go.Value.int Go.IntKind.i64 0]) h := dwp_zero_of Try.zeroValue157
theorem rz157 {F : Fr} {S : Hp} : rval Try.prog F (zeroValue 157) S = some (Go.Value.agg #[Go.Value.int Go.IntKind.i64 0, Go.Value.int Go.IntKind.i64 0, Go.Value.int Go.IntKind.i64 0]) := rval_zero Try.zeroValue157
theorem un160 {F : Fr} {h : Hp} {K : TypeDesc → Hp → Prop} : dwp Try.prog F (underlying 160) h K = K (Go.TypeDesc.func #[146, 159] #[85, 30] false) h := by rw [dwp_underlying, Try.underlying160]; rfl
theorem ru160 {F : Fr} {S : Hp} : rval Try.prog F (underlying 160) S = some (Go.TypeDesc.func #[146, 159] #[85, 30] false) := rval_un Try.underlying160
theorem sz160 {F : Fr} {h : Hp} {K : Nat → Hp → Prop} : dwp Try.prog F (sizeOf 160) h K = K 1 h := dwp_size_of Try.sizeOf160
theorem rs160 {F : Fr} {S : Hp} : rval Try.prog F (sizeOf 160) S = some 1 := rval_size Try.sizeOf160
theorem ag160 {F : Fr} {h : Hp} {K : Bool → Hp → Prop} : dwp Try.prog F (isAgg 160) h K = K false h := dwp_agg_of Try.isAgg160
theorem ra160 {F : Fr} {S : Hp} : rval Try.prog F (isAgg 160) S = some false := rval_agg Try.isAgg160
theorem ze160 {F : Fr} {h : Hp} {K : Value → Hp → Prop} : dwp Try.prog F (zeroValue 160) h K = K Go.Value.nilFunc h := dwp_zero_of Try.zeroValue160
theorem rz160 {F : Fr} {S : Hp} : rval Try.prog F (zeroValue 160) S = some (Go.Value.nilFunc) := rval_zero Try.zeroValue160
theorem un182 {F : Fr} {h : Hp} {K : TypeDesc → Hp → Prop} : dwp Try.prog F (underlying 182) h K = K (Go.TypeDesc.struct #[{ name := "ThreadForm", type := 24, offset := 0, embedded := true, tag := "", pkgPath := "", byteOffset := 0 }]) h := by rw [dwp_underlying, Try.underlying182]; rfl
theorem ru182 {F : Fr} {S : Hp} : rval Try.prog F (underlying 182) S = some (Go.TypeDesc.struct #[{ name := "ThreadForm", type := 24, offset := 0, embedded := true, tag := "", pkgPath := "", byteOffset := 0 }]) := rval_un Try.underlying182
theorem sz182 {F : Fr} {h : Hp} {K : Nat → Hp → Prop} : dwp Try.prog F (sizeOf 182) h K = K 8 h := dwp_size_of Try.sizeOf182
theorem rs182 {F : Fr} {S : Hp} : rval Try.prog F (sizeOf 182) S = some 8 := rval_size Try.sizeOf182
theorem ag182 {F : Fr} {h : Hp} {K : Bool → Hp → Prop} : dwp Try.prog F (isAgg 182) h K = K true h := dwp_agg_of Try.isAgg182
theorem ra182 {F : Fr} {S : Hp} : rval Try.prog F (isAgg 182) S = some true := rval_agg Try.isAgg182
theorem ze182 {F : Fr} {h : Hp} {K : Value → Hp → Prop} : dwp Try.prog F (zeroValue 182) h K = K (Go.Value.agg #[Go.Value.int Go.IntKind.i64 0, Go.Value.int Go.IntKind.i64 0, Go.Value.int Go.IntKind.i64 0, Go.Value.int Go.IntKind.i64 0, Go.Value.int Go.IntKind.i64 0, Go.Value.int Go.IntKind.i64 0, Go.Value.bool false, Go.Value.int Go.IntKind.i64 0]) h := dwp_zero_of Try.zeroValue182
theorem rz182 {F : Fr} {S : Hp} : rval Try.prog F (zeroValue 182) S = some (Go.Value.agg #[Go.Value.int Go.IntKind.i64 0, Go.Value.int Go.IntKind.i64 0, Go.Value.int Go.IntKind.i64 0, Go.Value.int Go.IntKind.i64 0, Go.Value.int Go.IntKind.i64 0, Go.Value.int Go.IntKind.i64 0, Go.Value.bool false, Go.Value.int Go.IntKind.i64 0]) := rval_zero Try.zeroValue182
theorem un191 {F : Fr} {h : Hp} {K : TypeDesc → Hp → Prop} : dwp Try.prog F (underlying 191) h K = K (Go.TypeDesc.struct #[{ name := "Span", type := 27, offset := 0, embedded := true, tag := "", pkgPath := "", byteOffset := 0 }]) h := by rw [dwp_underlying, Try.underlying191]; rfl
theorem ru191 {F : Fr} {S : Hp} : rval Try.prog F (underlying 191) S = some (Go.TypeDesc.struct #[{ name := "Span", type := 27, offset := 0, embedded := true, tag := "", pkgPath := "", byteOffset := 0 }]) := rval_un Try.underlying191
theorem sz191 {F : Fr} {h : Hp} {K : Nat → Hp → Prop} : dwp Try.prog F (sizeOf 191) h K = K 2 h := dwp_size_of Try.sizeOf191
theorem rs191 {F : Fr} {S : Hp} : rval Try.prog F (sizeOf 191) S = some 2 := rval_size Try.sizeOf191
theorem ag191 {F : Fr} {h : Hp} {K : Bool → Hp → Prop} : dwp Try.prog F (isAgg 191) h K = K true h := dwp_agg_of Try.isAgg191
theorem ra191 {F : Fr} {S : Hp} : rval Try.prog F (isAgg 191) S = some true := rval_agg Try.isAgg191
theorem ze191 {F : Fr} {h : Hp} {K : Value → Hp → Prop} : dwp Try.prog F (zeroValue 191) h K = K (Go.Value.agg #[Go.Value.int Go.IntKind.i64 0, Go.Value.int Go.IntKind.i64 0]) h := dwp_zero_of Try.zeroValue191
theorem rz191 {F : Fr} {S : Hp} : rval Try.prog F (zeroValue 191) S = some (Go.Value.agg #[Go.Value.int Go.IntKind.i64 0, Go.Value.int Go.IntKind.i64 0]) := rval_zero Try.zeroValue191
theorem un193 {F : Fr} {h : Hp} {K : TypeDesc → Hp → Prop} : dwp Try.prog F (underlying 193) h K = K (Go.TypeDesc.struct #[{ name := "ThreadForm", type := 24, offset := 0, embedded := true, tag := "", pkgPath := "", byteOffset := 0 }, { name := "size", type := 3, offset := 8, embedded := false, tag := "", pkgPath := "acme/swap", byteOffset := 64 }]) h := by rw [dwp_underlying, Try.underlying193]; rfl
theorem ru193 {F : Fr} {S : Hp} : rval Try.prog F (underlying 193) S = some (Go.TypeDesc.struct #[{ name := "ThreadForm", type := 24, offset := 0, embedded := true, tag := "", pkgPath := "", byteOffset := 0 }, { name := "size", type := 3, offset := 8, embedded := false, tag := "", pkgPath := "acme/swap", byteOffset := 64 }]) := rval_un Try.underlying193
theorem sz193 {F : Fr} {h : Hp} {K : Nat → Hp → Prop} : dwp Try.prog F (sizeOf 193) h K = K 9 h := dwp_size_of Try.sizeOf193
theorem rs193 {F : Fr} {S : Hp} : rval Try.prog F (sizeOf 193) S = some 9 := rval_size Try.sizeOf193
theorem ag193 {F : Fr} {h : Hp} {K : Bool → Hp → Prop} : dwp Try.prog F (isAgg 193) h K = K true h := dwp_agg_of Try.isAgg193
theorem ra193 {F : Fr} {S : Hp} : rval Try.prog F (isAgg 193) S = some true := rval_agg Try.isAgg193
theorem ze193 {F : Fr} {h : Hp} {K : Value → Hp → Prop} : dwp Try.prog F (zeroValue 193) h K = K (Go.Value.agg #[Go.Value.int Go.IntKind.i64 0, Go.Value.int Go.IntKind.i64 0, Go.Value.int Go.IntKind.i64 0, Go.Value.int Go.IntKind.i64 0, Go.Value.int Go.IntKind.i64 0, Go.Value.int Go.IntKind.i64 0, Go.Value.bool false, Go.Value.int Go.IntKind.i64 0, Go.Value.int Go.IntKind.i64 0]) h := dwp_zero_of Try.zeroValue193
theorem rz193 {F : Fr} {S : Hp} : rval Try.prog F (zeroValue 193) S = some (Go.Value.agg #[Go.Value.int Go.IntKind.i64 0, Go.Value.int Go.IntKind.i64 0, Go.Value.int Go.IntKind.i64 0, Go.Value.int Go.IntKind.i64 0, Go.Value.int Go.IntKind.i64 0, Go.Value.int Go.IntKind.i64 0, Go.Value.bool false, Go.Value.int Go.IntKind.i64 0, Go.Value.int Go.IntKind.i64 0]) := rval_zero Try.zeroValue193
theorem un197 {F : Fr} {h : Hp} {K : TypeDesc → Hp → Prop} : dwp Try.prog F (underlying 197) h K = K (Go.TypeDesc.struct #[{ name := "BoltKind", type := 42, offset := 0, embedded := true, tag := "", pkgPath := "", byteOffset := 0 }]) h := by rw [dwp_underlying, Try.underlying197]; rfl
theorem ru197 {F : Fr} {S : Hp} : rval Try.prog F (underlying 197) S = some (Go.TypeDesc.struct #[{ name := "BoltKind", type := 42, offset := 0, embedded := true, tag := "", pkgPath := "", byteOffset := 0 }]) := rval_un Try.underlying197
theorem sz197 {F : Fr} {h : Hp} {K : Nat → Hp → Prop} : dwp Try.prog F (sizeOf 197) h K = K 13 h := dwp_size_of Try.sizeOf197
theorem rs197 {F : Fr} {S : Hp} : rval Try.prog F (sizeOf 197) S = some 13 := rval_size Try.sizeOf197
theorem ag197 {F : Fr} {h : Hp} {K : Bool → Hp → Prop} : dwp Try.prog F (isAgg 197) h K = K true h := dwp_agg_of Try.isAgg197
theorem ra197 {F : Fr} {S : Hp} : rval Try.prog F (isAgg 197) S = some true := rval_agg Try.isAgg197
theorem ze197 {F : Fr} {h : Hp} {K : Value → Hp → Prop} : dwp Try.prog F (zeroValue 197) h K = K (Go.Value.agg #[Go.Value.int Go.IntKind.i64 0, Go.Value.int Go.IntKind.i64 0, Go.Value.int Go.IntKind.i64 0, Go.Value.int Go.IntKind.i64 0, Go.Value.int Go.IntKind.i64 0, Go.Value.int Go.IntKind.i64 0, Go.Value.int Go.IntKind.i64 0, Go.Value.int Go.IntKind.i64 0, Go.Value.int Go.IntKind.i64 0, Go.Value.int Go.IntKind.i64 0, Go.Value.int Go.IntKind.i64 0, Go.Value.int Go.IntKind.i64 0, Go.Value.int Go.IntKind.i64 0]) h := dwp_zero_of Try.zeroValue197
theorem rz197 {F : Fr} {S : Hp} : rval Try.prog F (zeroValue 197) S = some (Go.Value.agg #[Go.Value.int Go.IntKind.i64 0, Go.Value.int Go.IntKind.i64 0, Go.Value.int Go.IntKind.i64 0, Go.Value.int Go.IntKind.i64 0, Go.Value.int Go.IntKind.i64 0, Go.Value.int Go.IntKind.i64 0, Go.Value.int Go.IntKind.i64 0, Go.Value.int Go.IntKind.i64 0, Go.Value.int Go.IntKind.i64 0, Go.Value.int Go.IntKind.i64 0, Go.Value.int Go.IntKind.i64 0, Go.Value.int Go.IntKind.i64 0, Go.Value.int Go.IntKind.i64 0]) := rval_zero Try.zeroValue197
theorem un200 {F : Fr} {h : Hp} {K : TypeDesc → Hp → Prop} : dwp Try.prog F (underlying 200) h K = K (Go.TypeDesc.func #[48] #[27] false) h := by rw [dwp_underlying, Try.underlying200]; rfl
theorem ru200 {F : Fr} {S : Hp} : rval Try.prog F (underlying 200) S = some (Go.TypeDesc.func #[48] #[27] false) := rval_un Try.underlying200
theorem sz200 {F : Fr} {h : Hp} {K : Nat → Hp → Prop} : dwp Try.prog F (sizeOf 200) h K = K 1 h := dwp_size_of Try.sizeOf200
theorem rs200 {F : Fr} {S : Hp} : rval Try.prog F (sizeOf 200) S = some 1 := rval_size Try.sizeOf200
theorem ag200 {F : Fr} {h : Hp} {K : Bool → Hp → Prop} : dwp Try.prog F (isAgg 200) h K = K false h := dwp_agg_of Try.isAgg200
theorem ra200 {F : Fr} {S : Hp} : rval Try.prog F (isAgg 200) S = some false := rval_agg Try.isAgg200
theorem ze200 {F : Fr} {h : Hp} {K : Value → Hp → Prop} : dwp Try.prog F (zeroValue 200) h K = K Go.Value.nilFunc h := dwp_zero_of Try.zeroValue200
theorem rz200 {F : Fr} {S : Hp} : rval Try.prog F (zeroValue 200) S = some (Go.Value.nilFunc) := rval_zero Try.zeroValue200
theorem un204 {F : Fr} {h : Hp} {K : TypeDesc → Hp → Prop} : dwp Try.prog F (underlying 204) h K = K (Go.TypeDesc.struct #[{ name := "ZoneCoat", type := 58, offset := 0, embedded := true, tag := "", pkgPath := "", byteOffset := 0 }, { name := "least", type := 3, offset := 4, embedded := false, tag := "", pkgPath := "acme/zone", byteOffset := 32 }, { name := "most", type := 3, offset := 5, embedded := false, tag := "", pkgPath := "acme/zone", byteOffset := 40 }]) h := by rw [dwp_underlying, Try.underlying204]; rfl
theorem ru204 {F : Fr} {S : Hp} : rval Try.prog F (underlying 204) S = some (Go.TypeDesc.struct #[{ name := "ZoneCoat", type := 58, offset := 0, embedded := true, tag := "", pkgPath := "", byteOffset := 0 }, { name := "least", type := 3, offset := 4, embedded := false, tag := "", pkgPath := "acme/zone", byteOffset := 32 }, { name := "most", type := 3, offset := 5, embedded := false, tag := "", pkgPath := "acme/zone", byteOffset := 40 }]) := rval_un Try.underlying204
theorem sz204 {F : Fr} {h : Hp} {K : Nat → Hp → Prop} : dwp Try.prog F (sizeOf 204) h K = K 6 h := dwp_size_of Try.sizeOf204
theorem rs204 {F : Fr} {S : Hp} : rval Try.prog F (sizeOf 204) S = some 6 := rval_size Try.sizeOf204
theorem ag204 {F : Fr} {h : Hp} {K : Bool → Hp → Prop} : dwp Try.prog F (isAgg 204) h K = K true h := dwp_agg_of Try.isAgg204
theorem ra204 {F : Fr} {S : Hp} : rval Try.prog F (isAgg 204) S = some true := rval_agg Try.isAgg204
theorem ze204 {F : Fr} {h : Hp} {K : Value → Hp → Prop} : dwp Try.prog F (zeroValue 204) h K = K (Go.Value.agg #[Go.Value.int Go.IntKind.i64 0, Go.Value.int Go.IntKind.i64 0, Go.Value.int Go.IntKind.i64 0, Go.Value.int Go.IntKind.i64 0, Go.Value.int Go.IntKind.i64 0, Go.Value.int Go.IntKind.i64 0]) h := dwp_zero_of Try.zeroValue204
theorem rz204 {F : Fr} {S : Hp} : rval Try.prog F (zeroValue 204) S = some (Go.Value.agg #[Go.Value.int Go.IntKind.i64 0, Go.Value.int Go.IntKind.i64 0, Go.Value.int Go.IntKind.i64 0, Go.Value.int Go.IntKind.i64 0, Go.Value.int Go.IntKind.i64 0, Go.Value.int Go.IntKind.i64 0]) := rval_zero Try.zeroValue204
theorem un238 {F : Fr} {h : Hp} {K : TypeDesc → Hp → Prop} : dwp Try.prog F (underlying 238) h K = K (Go.TypeDesc.struct #[{ name := "SwapStandard", type := 103, offset := 0, embedded := true, tag := "", pkgPath := "", byteOffset := 0 }]) h := by rw [dwp_underlying, Try.underlying238]; rfl
theorem ru238 {F : Fr} {S : Hp} : rval Try.prog F (underlying 238) S = some (Go.TypeDesc.struct #[{ name := "SwapStandard", type := 103, offset := 0, embedded := true, tag := "", pkgPath := "", byteOffset := 0 }]) := rval_un Try.underlying238
theorem sz238 {F : Fr} {h : Hp} {K : Nat → Hp → Prop} : dwp Try.prog F (sizeOf 238) h K = K 15 h := dwp_size_of Try.sizeOf238
theorem rs238 {F : Fr} {S : Hp} : rval Try.prog F (sizeOf 238) S = some 15 := rval_size Try.sizeOf238
theorem ag238 {F : Fr} {h : Hp} {K : Bool → Hp → Prop} : dwp Try.prog F (isAgg 238) h K = K true h := dwp_agg_of Try.isAgg238
theorem ra238 {F : Fr} {S : Hp} : rval Try.prog F (isAgg 238) S = some true := rval_agg Try.isAgg238
theorem ze238 {F : Fr} {h : Hp} {K : Value → Hp → Prop} : dwp Try.prog F (zeroValue 238) h K = K (Go.Value.agg #[Go.Value.int Go.IntKind.i64 0, Go.Value.int Go.IntKind.i64 0, Go.Value.int Go.IntKind.i64 0, Go.Value.int Go.IntKind.i64 0, Go.Value.int Go.IntKind.i64 0, Go.Value.int Go.IntKind.i64 0, Go.Value.int Go.IntKind.i64 0, Go.Value.int Go.IntKind.i64 0, Go.Value.int Go.IntKind.i64 0, Go.Value.bool false, Go.Value.int Go.IntKind.i64 0, Go.Value.int Go.IntKind.i64 0, Go.Value.int Go.IntKind.i64 0, Go.Value.int Go.IntKind.i64 0, Go.Value.int Go.IntKind.i64 0]) h := dwp_zero_of Try.zeroValue238
theorem rz238 {F : Fr} {S : Hp} : rval Try.prog F (zeroValue 238) S = some (Go.Value.agg #[Go.Value.int Go.IntKind.i64 0, Go.Value.int Go.IntKind.i64 0, Go.Value.int Go.IntKind.i64 0, Go.Value.int Go.IntKind.i64 0, Go.Value.int Go.IntKind.i64 0, Go.Value.int Go.IntKind.i64 0, Go.Value.int Go.IntKind.i64 0, Go.Value.int Go.IntKind.i64 0, Go.Value.int Go.IntKind.i64 0, Go.Value.bool false, Go.Value.int Go.IntKind.i64 0, Go.Value.int Go.IntKind.i64 0, Go.Value.int Go.IntKind.i64 0, Go.Value.int Go.IntKind.i64 0, Go.Value.int Go.IntKind.i64 0]) := rval_zero Try.zeroValue238
theorem un244 {F : Fr} {h : Hp} {K : TypeDesc → Hp → Prop} : dwp Try.prog F (underlying 244) h K = K (Go.TypeDesc.struct #[{ name := "Span", type := 27, offset := 0, embedded := true, tag := "", pkgPath := "", byteOffset := 0 }]) h := by rw [dwp_underlying, Try.underlying244]; rfl
theorem ru244 {F : Fr} {S : Hp} : rval Try.prog F (underlying 244) S = some (Go.TypeDesc.struct #[{ name := "Span", type := 27, offset := 0, embedded := true, tag := "", pkgPath := "", byteOffset := 0 }]) := rval_un Try.underlying244
theorem sz244 {F : Fr} {h : Hp} {K : Nat → Hp → Prop} : dwp Try.prog F (sizeOf 244) h K = K 2 h := dwp_size_of Try.sizeOf244
theorem rs244 {F : Fr} {S : Hp} : rval Try.prog F (sizeOf 244) S = some 2 := rval_size Try.sizeOf244
theorem ag244 {F : Fr} {h : Hp} {K : Bool → Hp → Prop} : dwp Try.prog F (isAgg 244) h K = K true h := dwp_agg_of Try.isAgg244
theorem ra244 {F : Fr} {S : Hp} : rval Try.prog F (isAgg 244) S = some true := rval_agg Try.isAgg244
theorem ze244 {F : Fr} {h : Hp} {K : Value → Hp → Prop} : dwp Try.prog F (zeroValue 244) h K = K (Go.Value.agg #[Go.Value.int Go.IntKind.i64 0, Go.Value.int Go.IntKind.i64 0]) h := dwp_zero_of Try.zeroValue244
theorem rz244 {F : Fr} {S : Hp} : rval Try.prog F (zeroValue 244) S = some (Go.Value.agg #[Go.Value.int Go.IntKind.i64 0, Go.Value.int Go.IntKind.i64 0]) := rval_zero Try.zeroValue244
theorem un280 {F : Fr} {h : Hp} {K : TypeDesc → Hp → Prop} : dwp Try.prog F (underlying 280) h K = K (Go.TypeDesc.func #[3] #[4] false) h := by rw [dwp_underlying, Try.underlying280]; rfl
theorem ru280 {F : Fr} {S : Hp} : rval Try.prog F (underlying 280) S = some (Go.TypeDesc.func #[3] #[4] false) := rval_un Try.underlying280
theorem sz280 {F : Fr} {h : Hp} {K : Nat → Hp → Prop} : dwp Try.prog F (sizeOf 280) h K = K 1 h := dwp_size_of Try.sizeOf280
theorem rs280 {F : Fr} {S : Hp} : rval Try.prog F (sizeOf 280) S = some 1 := rval_size Try.sizeOf280
theorem ag280 {F : Fr} {h : Hp} {K : Bool → Hp → Prop} : dwp Try.prog F (isAgg 280) h K = K false h := dwp_agg_of Try.isAgg280
theorem ra280 {F : Fr} {S : Hp} : rval Try.prog F (isAgg 280) S = some false := rval_agg Try.isAgg280
theorem ze280 {F : Fr} {h : Hp} {K : Value → Hp → Prop} : dwp Try.prog F (zeroValue 280) h K = K Go.Value.nilFunc h := dwp_zero_of Try.zeroValue280
theorem rz280 {F : Fr} {S : Hp} : rval Try.prog F (zeroValue 280) S = some (Go.Value.nilFunc) := rval_zero Try.zeroValue280
theorem un285 {F : Fr} {h : Hp} {K : TypeDesc → Hp → Prop} : dwp Try.prog F (underlying 285) h K = K (Go.TypeDesc.func #[48] #[4] false) h := by rw [dwp_underlying, Try.underlying285]; rfl
theorem ru285 {F : Fr} {S : Hp} : rval Try.prog F (underlying 285) S = some (Go.TypeDesc.func #[48] #[4] false) := rval_un Try.underlying285
theorem sz285 {F : Fr} {h : Hp} {K : Nat → Hp → Prop} : dwp Try.prog F (sizeOf 285) h K = K 1 h := dwp_size_of Try.sizeOf285
theorem rs285 {F : Fr} {S : Hp} : rval Try.prog F (sizeOf 285) S = some 1 := rval_size Try.sizeOf285
theorem ag285 {F : Fr} {h : Hp} {K : Bool → Hp → Prop} : dwp Try.prog F (isAgg 285) h K = K false h := dwp_agg_of Try.isAgg285
theorem ra285 {F : Fr} {S : Hp} : rval Try.prog F (isAgg 285) S = some false := rval_agg Try.isAgg285
theorem ze285 {F : Fr} {h : Hp} {K : Value → Hp → Prop} : dwp Try.prog F (zeroValue 285) h K = K Go.Value.nilFunc h := dwp_zero_of Try.zeroValue285
theorem rz285 {F : Fr} {S : Hp} : rval Try.prog F (zeroValue 285) S = some (Go.Value.nilFunc) := rval_zero Try.zeroValue285
theorem un288 {F : Fr} {h : Hp} {K : TypeDesc → Hp → Prop} : dwp Try.prog F (underlying 288) h K = K (Go.TypeDesc.array 2 244) h := by rw [dwp_underlying, Try.underlying288]; rfl
theorem ru288 {F : Fr} {S : Hp} : rval Try.prog F (underlying 288) S = some (Go.TypeDesc.array 2 244) := rval_un Try.underlying288
theorem ix288 {F : Fr} {h : Hp} {a : Addr} {k : IntKind} {i : Int} {K : Value → Hp → Prop} (h1 : 0 ≤ i) (h2 : i < ((2 : Nat) : Int)) : dwp Try.prog F (Instr.indexAt 288 (.pointer (some a)) (.int k i)) h K = K (.pointer (some (a.add (i.toNat * 2)))) h := dwp_ixA Try.underlying288 Try.sizeOf244 h1 h2
theorem rx288 {F : Fr} {S : Hp} {a : Addr} {k : IntKind} {i : Int} (h1 : 0 ≤ i) (h2 : i < ((2 : Nat) : Int)) : rval Try.prog F (Instr.indexAt 288 (.pointer (some a)) (.int k i)) S = some (.pointer (some (a.add (i.toNat * 2)))) := rval_ixA Try.underlying288 Try.sizeOf244 h1 h2
theorem sz288 {F : Fr} {h : Hp} {K : Nat → Hp → Prop} : dwp Try.prog F (sizeOf 288) h K = K 4 h := dwp_size_of Try.sizeOf288
theorem rs288 {F : Fr} {S : Hp} : rval Try.prog F (sizeOf 288) S = some 4 := rval_size Try.sizeOf288
theorem ag288 {F : Fr} {h : Hp} {K : Bool → Hp → Prop} : dwp Try.prog F (isAgg 288) h K = K true h := dwp_agg_of Try.isAgg288
theorem ra288 {F : Fr} {S : Hp} : rval Try.prog F (isAgg 288) S = some true := rval_agg Try.isAgg288
theorem ze288 {F : Fr} {h : Hp} {K : Value → Hp → Prop} : dwp Try.prog F (zeroValue 288) h K = K (Go.Value.agg #[Go.Value.int Go.IntKind.i64 0, Go.Value.int Go.IntKind.i64 0, Go.Value.int Go.IntKind.i64 0, Go.Value.int Go.IntKind.i64 0]) h := dwp_zero_of Try.zeroValue288
theorem rz288 {F : Fr} {S : Hp} : rval Try.prog F (zeroValue 288) S = some (Go.Value.agg #[Go.Value.int Go.IntKind.i64 0, Go.Value.int Go.IntKind.i64 0, Go.Value.int Go.IntKind.i64 0, Go.Value.int Go.IntKind.i64 0]) := rval_zero Try.zeroValue288
theorem un300 {F : Fr} {h : Hp} {K : TypeDesc → Hp → Prop} : dwp Try.prog F (underlying 300) h K = K (Go.TypeDesc.struct #[{ name := "DieTool", type := 105, offset := 0, embedded := true, tag := "", pkgPath := "", byteOffset := 0 }, { name := "orders", type := 111, offset := 6, embedded := false, tag := "", pkgPath := "acme/die", byteOffset := 64 }, { name := "first", type := 85, offset := 7, embedded := false, tag := "", pkgPath := "acme/die", byteOffset := 88 }, { name := "down", type := 4, offset := 8, embedded := false, tag := "", pkgPath := "acme/die", byteOffset := 112 }]) h := by rw [dwp_underlying, Try.underlying300]; rfl
theorem ru300 {F : Fr} {S : Hp} : rval Try.prog F (underlying 300) S = some (Go.TypeDesc.struct #[{ name := "DieTool", type := 105, offset := 0, embedded := true, tag := "", pkgPath := "", byteOffset := 0 }, { name := "orders", type := 111, offset := 6, embedded := false, tag := "", pkgPath := "acme/die", byteOffset := 64 }, { name := "first", type := 85, offset := 7, embedded := false, tag := "", pkgPath := "acme/die", byteOffset := 88 }, { name := "down", type := 4, offset := 8, embedded := false, tag := "", pkgPath := "acme/die", byteOffset := 112 }]) := rval_un Try.underlying300
theorem sz300 {F : Fr} {h : Hp} {K : Nat → Hp → Prop} : dwp Try.prog F (sizeOf 300) h K = K 9 h := dwp_size_of Try.sizeOf300
theorem rs300 {F : Fr} {S : Hp} : rval Try.prog F (sizeOf 300) S = some 9 := rval_size Try.sizeOf300
theorem ag300 {F : Fr} {h : Hp} {K : Bool → Hp → Prop} : dwp Try.prog F (isAgg 300) h K = K true h := dwp_agg_of Try.isAgg300
theorem ra300 {F : Fr} {S : Hp} : rval Try.prog F (isAgg 300) S = some true := rval_agg Try.isAgg300
theorem ze300 {F : Fr} {h : Hp} {K : Value → Hp → Prop} : dwp Try.prog F (zeroValue 300) h K = K (Go.Value.agg #[Go.Value.bool false, Go.Value.int Go.IntKind.i64 0, Go.Value.int Go.IntKind.i64 0, Go.Value.int Go.IntKind.i64 0, Go.Value.int Go.IntKind.i64 0, Go.Value.slice none 0 0, Go.Value.slice none 0 0, Go.Value.slice none 0 0, Go.Value.bool false]) h := dwp_zero_of Try.zeroValue300
theorem rz300 {F : Fr} {S : Hp} : rval Try.prog F (zeroValue 300) S = some (Go.Value.agg #[Go.Value.bool false, Go.Value.int Go.IntKind.i64 0, Go.Value.int Go.IntKind.i64 0, Go.Value.int Go.IntKind.i64 0, Go.Value.int Go.IntKind.i64 0, Go.Value.slice none 0 0, Go.Value.slice none 0 0, Go.Value.slice none 0 0, Go.Value.bool false]) := rval_zero Try.zeroValue300
theorem un308 {F : Fr} {h : Hp} {K : TypeDesc → Hp → Prop} : dwp Try.prog F (underlying 308) h K = K (Go.TypeDesc.func #[103] #[4] false) h := by rw [dwp_underlying, Try.underlying308]; rfl
theorem ru308 {F : Fr} {S : Hp} : rval Try.prog F (underlying 308) S = some (Go.TypeDesc.func #[103] #[4] false) := rval_un Try.underlying308
theorem sz308 {F : Fr} {h : Hp} {K : Nat → Hp → Prop} : dwp Try.prog F (sizeOf 308) h K = K 1 h := dwp_size_of Try.sizeOf308
theorem rs308 {F : Fr} {S : Hp} : rval Try.prog F (sizeOf 308) S = some 1 := rval_size Try.sizeOf308
theorem ag308 {F : Fr} {h : Hp} {K : Bool → Hp → Prop} : dwp Try.prog F (isAgg 308) h K = K false h := dwp_agg_of Try.isAgg308
theorem ra308 {F : Fr} {S : Hp} : rval Try.prog F (isAgg 308) S = some false := rval_agg Try.isAgg308
theorem ze308 {F : Fr} {h : Hp} {K : Value → Hp → Prop} : dwp Try.prog F (zeroValue 308) h K = K Go.Value.nilFunc h := dwp_zero_of Try.zeroValue308
theorem rz308 {F : Fr} {S : Hp} : rval Try.prog F (zeroValue 308) S = some (Go.Value.nilFunc) := rval_zero Try.zeroValue308
theorem un344 {F : Fr} {h : Hp} {K : TypeDesc → Hp → Prop} : dwp Try.prog F (underlying 344) h K = K (Go.TypeDesc.array 2 27) h := by rw [dwp_underlying, Try.underlying344]; rfl
theorem ru344 {F : Fr} {S : Hp} : rval Try.prog F (underlying 344) S = some (Go.TypeDesc.array 2 27) := rval_un Try.underlying344
theorem ix344 {F : Fr} {h : Hp} {a : Addr} {k : IntKind} {i : Int} {K : Value → Hp → Prop} (h1 : 0 ≤ i) (h2 : i < ((2 : Nat) : Int)) : dwp Try.prog F (Instr.indexAt 344 (.pointer (some a)) (.int k i)) h K = K (.pointer (some (a.add (i.toNat * 2)))) h := dwp_ixA Try.underlying344 Try.sizeOf27 h1 h2
theorem rx344 {F : Fr} {S : Hp} {a : Addr} {k : IntKind} {i : Int} (h1 : 0 ≤ i) (h2 : i < ((2 : Nat) : Int)) : rval Try.prog F (Instr.indexAt 344 (.pointer (some a)) (.int k i)) S = some (.pointer (some (a.add (i.toNat * 2)))) := rval_ixA Try.underlying344 Try.sizeOf27 h1 h2
theorem sz344 {F : Fr} {h : Hp} {K : Nat → Hp → Prop} : dwp Try.prog F (sizeOf 344) h K = K 4 h := dwp_size_of Try.sizeOf344
theorem rs344 {F : Fr} {S : Hp} : rval Try.prog F (sizeOf 344) S = some 4 := rval_size Try.sizeOf344
theorem ag344 {F : Fr} {h : Hp} {K : Bool → Hp → Prop} : dwp Try.prog F (isAgg 344) h K = K true h := dwp_agg_of Try.isAgg344
theorem ra344 {F : Fr} {S : Hp} : rval Try.prog F (isAgg 344) S = some true := rval_agg Try.isAgg344
theorem ze344 {F : Fr} {h : Hp} {K : Value → Hp → Prop} : dwp Try.prog F (zeroValue 344) h K = K (Go.Value.agg #[Go.Value.int Go.IntKind.i64 0, Go.Value.int Go.IntKind.i64 0, Go.Value.int Go.IntKind.i64 0, Go.Value.int Go.IntKind.i64 0]) h := dwp_zero_of Try.zeroValue344
theorem rz344 {F : Fr} {S : Hp} : rval Try.prog F (zeroValue 344) S = some (Go.Value.agg #[Go.Value.int Go.IntKind.i64 0, Go.Value.int Go.IntKind.i64 0, Go.Value.int Go.IntKind.i64 0, Go.Value.int Go.IntKind.i64 0]) := rval_zero Try.zeroValue344
theorem un346 {F : Fr} {h : Hp} {K : TypeDesc → Hp → Prop} : dwp Try.prog F (underlying 346) h K = K (Go.TypeDesc.func #[27] #[3] false) h := by rw [dwp_underlying, Try.underlying346]; rfl
theorem ru346 {F : Fr} {S : Hp} : rval Try.prog F (underlying 346) S = some (Go.TypeDesc.func #[27] #[3] false) := rval_un Try.underlying346
theorem sz346 {F : Fr} {h : Hp} {K : Nat → Hp → Prop} : dwp Try.prog F (sizeOf 346) h K = K 1 h := dwp_size_of Try.sizeOf346
theorem rs346 {F : Fr} {S : Hp} : rval Try.prog F (sizeOf 346) S = some 1 := rval_size Try.sizeOf346
theorem ag346 {F : Fr} {h : Hp} {K : Bool → Hp → Prop} : dwp Try.prog F (isAgg 346) h K = K false h := dwp_agg_of Try.isAgg346
theorem ra346 {F : Fr} {S : Hp} : rval Try.prog F (isAgg 346) S = some false := rval_agg Try.isAgg346
theorem ze346 {F : Fr} {h : Hp} {K : Value → Hp → Prop} : dwp Try.prog F (zeroValue 346) h K = K Go.Value.nilFunc h := dwp_zero_of Try.zeroValue346
theorem rz346 {F : Fr} {S : Hp} : rval Try.prog F (zeroValue 346) S = some (Go.Value.nilFunc) := rval_zero Try.zeroValue346
theorem un400 {F : Fr} {h : Hp} {K : TypeDesc → Hp → Prop} : dwp Try.prog F (underlying 400) h K = K (Go.TypeDesc.func #[85, 328] #[85] false) h := by rw [dwp_underlying, Try.underlying400]; rfl
theorem ru400 {F : Fr} {S : Hp} : rval Try.prog F (underlying 400) S = some (Go.TypeDesc.func #[85, 328] #[85] false) := rval_un Try.underlying400
theorem sz400 {F : Fr} {h : Hp} {K : Nat → Hp → Prop} : dwp Try.prog F (sizeOf 400) h K = K 1 h := dwp_size_of Try.sizeOf400
theorem rs400 {F : Fr} {S : Hp} : rval Try.prog F (sizeOf 400) S = some 1 := rval_size Try.sizeOf400
theorem ag400 {F : Fr} {h : Hp} {K : Bool → Hp → Prop} : dwp Try.prog F (isAgg 400) h K = K false h := dwp_agg_of Try.isAgg400
theorem ra400 {F : Fr} {S : Hp} : rval Try.prog F (isAgg 400) S = some false := rval_agg Try.isAgg400
theorem ze400 {F : Fr} {h : Hp} {K : Value → Hp → Prop} : dwp Try.prog F (zeroValue 400) h K = K Go.Value.nilFunc h := dwp_zero_of Try.zeroValue400
theorem rz400 {F : Fr} {S : Hp} : rval Try.prog F (zeroValue 400) S = some (Go.Value.nilFunc) := rval_zero Try.zeroValue400
theorem en3 {F : Fr} {h : Hp} {xs : Array Value} {K : Next → Hp → Prop} : dwp Try.prog F (callFunc 3 xs) h K = K (.enter 3 xs) h := dwp_callFunc (by unfold entB; rw [Try.func3]; rfl)
theorem re3 {F : Fr} {S : Hp} {xs : Array Value} : rval Try.prog F (callFunc 3 xs) S = some (.enter 3 xs) := rval_callFunc (by unfold entB; rw [Try.func3]; rfl)
theorem ni3 : Try.prog.inits.idxOf? 3 = none := by kernel_rfl
theorem en4 {F : Fr} {h : Hp} {xs : Array Value} {K : Next → Hp → Prop} : dwp Try.prog F (callFunc 4 xs) h K = K (.enter 4 xs) h := dwp_callFunc (by unfold entB; rw [Try.func4]; rfl)
theorem re4 {F : Fr} {S : Hp} {xs : Array Value} : rval Try.prog F (callFunc 4 xs) S = some (.enter 4 xs) := rval_callFunc (by unfold entB; rw [Try.func4]; rfl)
theorem ni4 : Try.prog.inits.idxOf? 4 = none := by kernel_rfl
theorem en5 {F : Fr} {h : Hp} {xs : Array Value} {K : Next → Hp → Prop} : dwp Try.prog F (callFunc 5 xs) h K = K (.enter 5 xs) h := dwp_callFunc (by unfold entB; rw [Try.func5]; rfl)
theorem re5 {F : Fr} {S : Hp} {xs : Array Value} : rval Try.prog F (callFunc 5 xs) S = some (.enter 5 xs) := rval_callFunc (by unfold entB; rw [Try.func5]; rfl)
theorem ni5 : Try.prog.inits.idxOf? 5 = none := by kernel_rfl
theorem en6 {F : Fr} {h : Hp} {xs : Array Value} {K : Next → Hp → Prop} : dwp Try.prog F (callFunc 6 xs) h K = K (.enter 6 xs) h := dwp_callFunc (by unfold entB; rw [Try.func6]; rfl)
theorem re6 {F : Fr} {S : Hp} {xs : Array Value} : rval Try.prog F (callFunc 6 xs) S = some (.enter 6 xs) := rval_callFunc (by unfold entB; rw [Try.func6]; rfl)
theorem ni6 : Try.prog.inits.idxOf? 6 = none := by kernel_rfl
theorem en19 {F : Fr} {h : Hp} {xs : Array Value} {K : Next → Hp → Prop} : dwp Try.prog F (callFunc 19 xs) h K = K (.enter 19 xs) h := dwp_callFunc (by unfold entB; rw [Try.func19]; rfl)
theorem re19 {F : Fr} {S : Hp} {xs : Array Value} : rval Try.prog F (callFunc 19 xs) S = some (.enter 19 xs) := rval_callFunc (by unfold entB; rw [Try.func19]; rfl)
theorem ni19 : Try.prog.inits.idxOf? 19 = none := by kernel_rfl
theorem en20 {F : Fr} {h : Hp} {xs : Array Value} {K : Next → Hp → Prop} : dwp Try.prog F (callFunc 20 xs) h K = K (.enter 20 xs) h := dwp_callFunc (by unfold entB; rw [Try.func20]; rfl)
theorem re20 {F : Fr} {S : Hp} {xs : Array Value} : rval Try.prog F (callFunc 20 xs) S = some (.enter 20 xs) := rval_callFunc (by unfold entB; rw [Try.func20]; rfl)
theorem ni20 : Try.prog.inits.idxOf? 20 = none := by kernel_rfl
theorem en21 {F : Fr} {h : Hp} {xs : Array Value} {K : Next → Hp → Prop} : dwp Try.prog F (callFunc 21 xs) h K = K (.enter 21 xs) h := dwp_callFunc (by unfold entB; rw [Try.func21]; rfl)
theorem re21 {F : Fr} {S : Hp} {xs : Array Value} : rval Try.prog F (callFunc 21 xs) S = some (.enter 21 xs) := rval_callFunc (by unfold entB; rw [Try.func21]; rfl)
theorem ni21 : Try.prog.inits.idxOf? 21 = none := by kernel_rfl
theorem en22 {F : Fr} {h : Hp} {xs : Array Value} {K : Next → Hp → Prop} : dwp Try.prog F (callFunc 22 xs) h K = K (.enter 22 xs) h := dwp_callFunc (by unfold entB; rw [Try.func22]; rfl)
theorem re22 {F : Fr} {S : Hp} {xs : Array Value} : rval Try.prog F (callFunc 22 xs) S = some (.enter 22 xs) := rval_callFunc (by unfold entB; rw [Try.func22]; rfl)
theorem ni22 : Try.prog.inits.idxOf? 22 = none := by kernel_rfl
theorem en23 {F : Fr} {h : Hp} {xs : Array Value} {K : Next → Hp → Prop} : dwp Try.prog F (callFunc 23 xs) h K = K (.enter 23 xs) h := dwp_callFunc (by unfold entB; rw [Try.func23]; rfl)
theorem re23 {F : Fr} {S : Hp} {xs : Array Value} : rval Try.prog F (callFunc 23 xs) S = some (.enter 23 xs) := rval_callFunc (by unfold entB; rw [Try.func23]; rfl)
theorem ni23 : Try.prog.inits.idxOf? 23 = none := by kernel_rfl
theorem en24 {F : Fr} {h : Hp} {xs : Array Value} {K : Next → Hp → Prop} : dwp Try.prog F (callFunc 24 xs) h K = K (.enter 24 xs) h := dwp_callFunc (by unfold entB; rw [Try.func24]; rfl)
theorem re24 {F : Fr} {S : Hp} {xs : Array Value} : rval Try.prog F (callFunc 24 xs) S = some (.enter 24 xs) := rval_callFunc (by unfold entB; rw [Try.func24]; rfl)
theorem ni24 : Try.prog.inits.idxOf? 24 = none := by kernel_rfl
theorem en25 {F : Fr} {h : Hp} {xs : Array Value} {K : Next → Hp → Prop} : dwp Try.prog F (callFunc 25 xs) h K = K (.enter 25 xs) h := dwp_callFunc (by unfold entB; rw [Try.func25]; rfl)
theorem re25 {F : Fr} {S : Hp} {xs : Array Value} : rval Try.prog F (callFunc 25 xs) S = some (.enter 25 xs) := rval_callFunc (by unfold entB; rw [Try.func25]; rfl)
theorem ni25 : Try.prog.inits.idxOf? 25 = none := by kernel_rfl
theorem en26 {F : Fr} {h : Hp} {xs : Array Value} {K : Next → Hp → Prop} : dwp Try.prog F (callFunc 26 xs) h K = K (.enter 26 xs) h := dwp_callFunc (by unfold entB; rw [Try.func26]; rfl)
theorem re26 {F : Fr} {S : Hp} {xs : Array Value} : rval Try.prog F (callFunc 26 xs) S = some (.enter 26 xs) := rval_callFunc (by unfold entB; rw [Try.func26]; rfl)
theorem ni26 : Try.prog.inits.idxOf? 26 = none := by kernel_rfl
theorem en27 {F : Fr} {h : Hp} {xs : Array Value} {K : Next → Hp → Prop} : dwp Try.prog F (callFunc 27 xs) h K = K (.enter 27 xs) h := dwp_callFunc (by unfold entB; rw [Try.func27]; rfl)
theorem re27 {F : Fr} {S : Hp} {xs : Array Value} : rval Try.prog F (callFunc 27 xs) S = some (.enter 27 xs) := rval_callFunc (by unfold entB; rw [Try.func27]; rfl)
theorem ni27 : Try.prog.inits.idxOf? 27 = none := by kernel_rfl
theorem en28 {F : Fr} {h : Hp} {xs : Array Value} {K : Next → Hp → Prop} : dwp Try.prog F (callFunc 28 xs) h K = K (.enter 28 xs) h := dwp_callFunc (by unfold entB; rw [Try.func28]; rfl)
theorem re28 {F : Fr} {S : Hp} {xs : Array Value} : rval Try.prog F (callFunc 28 xs) S = some (.enter 28 xs) := rval_callFunc (by unfold entB; rw [Try.func28]; rfl)
theorem ni28 : Try.prog.inits.idxOf? 28 = none := by kernel_rfl
theorem en29 {F : Fr} {h : Hp} {xs : Array Value} {K : Next → Hp → Prop} : dwp Try.prog F (callFunc 29 xs) h K = K (.enter 29 xs) h := dwp_callFunc (by unfold entB; rw [Try.func29]; rfl)
theorem re29 {F : Fr} {S : Hp} {xs : Array Value} : rval Try.prog F (callFunc 29 xs) S = some (.enter 29 xs) := rval_callFunc (by unfold entB; rw [Try.func29]; rfl)
theorem ni29 : Try.prog.inits.idxOf? 29 = none := by kernel_rfl
theorem en30 {F : Fr} {h : Hp} {xs : Array Value} {K : Next → Hp → Prop} : dwp Try.prog F (callFunc 30 xs) h K = K (.enter 30 xs) h := dwp_callFunc (by unfold entB; rw [Try.func30]; rfl)
theorem re30 {F : Fr} {S : Hp} {xs : Array Value} : rval Try.prog F (callFunc 30 xs) S = some (.enter 30 xs) := rval_callFunc (by unfold entB; rw [Try.func30]; rfl)
theorem ni30 : Try.prog.inits.idxOf? 30 = none := by kernel_rfl
theorem en31 {F : Fr} {h : Hp} {xs : Array Value} {K : Next → Hp → Prop} : dwp Try.prog F (callFunc 31 xs) h K = K (.enter 31 xs) h := dwp_callFunc (by unfold entB; rw [Try.func31]; rfl)
theorem re31 {F : Fr} {S : Hp} {xs : Array Value} : rval Try.prog F (callFunc 31 xs) S = some (.enter 31 xs) := rval_callFunc (by unfold entB; rw [Try.func31]; rfl)
theorem ni31 : Try.prog.inits.idxOf? 31 = none := by kernel_rfl
theorem en32 {F : Fr} {h : Hp} {xs : Array Value} {K : Next → Hp → Prop} : dwp Try.prog F (callFunc 32 xs) h K = K (.enter 32 xs) h := dwp_callFunc (by unfold entB; rw [Try.func32]; rfl)
theorem re32 {F : Fr} {S : Hp} {xs : Array Value} : rval Try.prog F (callFunc 32 xs) S = some (.enter 32 xs) := rval_callFunc (by unfold entB; rw [Try.func32]; rfl)
theorem ni32 : Try.prog.inits.idxOf? 32 = none := by kernel_rfl
theorem en33 {F : Fr} {h : Hp} {xs : Array Value} {K : Next → Hp → Prop} : dwp Try.prog F (callFunc 33 xs) h K = K (.enter 33 xs) h := dwp_callFunc (by unfold entB; rw [Try.func33]; rfl)
theorem re33 {F : Fr} {S : Hp} {xs : Array Value} : rval Try.prog F (callFunc 33 xs) S = some (.enter 33 xs) := rval_callFunc (by unfold entB; rw [Try.func33]; rfl)
theorem ni33 : Try.prog.inits.idxOf? 33 = none := by kernel_rfl
theorem en34 {F : Fr} {h : Hp} {xs : Array Value} {K : Next → Hp → Prop} : dwp Try.prog F (callFunc 34 xs) h K = K (.enter 34 xs) h := dwp_callFunc (by unfold entB; rw [Try.func34]; rfl)
theorem re34 {F : Fr} {S : Hp} {xs : Array Value} : rval Try.prog F (callFunc 34 xs) S = some (.enter 34 xs) := rval_callFunc (by unfold entB; rw [Try.func34]; rfl)
theorem ni34 : Try.prog.inits.idxOf? 34 = none := by kernel_rfl
theorem en35 {F : Fr} {h : Hp} {xs : Array Value} {K : Next → Hp → Prop} : dwp Try.prog F (callFunc 35 xs) h K = K (.enter 35 xs) h := dwp_callFunc (by unfold entB; rw [Try.func35]; rfl)
theorem re35 {F : Fr} {S : Hp} {xs : Array Value} : rval Try.prog F (callFunc 35 xs) S = some (.enter 35 xs) := rval_callFunc (by unfold entB; rw [Try.func35]; rfl)
theorem ni35 : Try.prog.inits.idxOf? 35 = none := by kernel_rfl
theorem en36 {F : Fr} {h : Hp} {xs : Array Value} {K : Next → Hp → Prop} : dwp Try.prog F (callFunc 36 xs) h K = K (.enter 36 xs) h := dwp_callFunc (by unfold entB; rw [Try.func36]; rfl)
theorem re36 {F : Fr} {S : Hp} {xs : Array Value} : rval Try.prog F (callFunc 36 xs) S = some (.enter 36 xs) := rval_callFunc (by unfold entB; rw [Try.func36]; rfl)
theorem ni36 : Try.prog.inits.idxOf? 36 = none := by kernel_rfl
theorem en37 {F : Fr} {h : Hp} {xs : Array Value} {K : Next → Hp → Prop} : dwp Try.prog F (callFunc 37 xs) h K = K (.enter 37 xs) h := dwp_callFunc (by unfold entB; rw [Try.func37]; rfl)
theorem re37 {F : Fr} {S : Hp} {xs : Array Value} : rval Try.prog F (callFunc 37 xs) S = some (.enter 37 xs) := rval_callFunc (by unfold entB; rw [Try.func37]; rfl)
theorem ni37 : Try.prog.inits.idxOf? 37 = none := by kernel_rfl
theorem en38 {F : Fr} {h : Hp} {xs : Array Value} {K : Next → Hp → Prop} : dwp Try.prog F (callFunc 38 xs) h K = K (.enter 38 xs) h := dwp_callFunc (by unfold entB; rw [Try.func38]; rfl)
theorem re38 {F : Fr} {S : Hp} {xs : Array Value} : rval Try.prog F (callFunc 38 xs) S = some (.enter 38 xs) := rval_callFunc (by unfold entB; rw [Try.func38]; rfl)
theorem ni38 : Try.prog.inits.idxOf? 38 = none := by kernel_rfl
theorem en56 {F : Fr} {h : Hp} {xs : Array Value} {K : Next → Hp → Prop} : dwp Try.prog F (callFunc 56 xs) h K = K (.enter 56 xs) h := dwp_callFunc (by unfold entB; rw [Try.func56]; rfl)
theorem re56 {F : Fr} {S : Hp} {xs : Array Value} : rval Try.prog F (callFunc 56 xs) S = some (.enter 56 xs) := rval_callFunc (by unfold entB; rw [Try.func56]; rfl)
theorem ni56 : Try.prog.inits.idxOf? 56 = none := by kernel_rfl
theorem en57 {F : Fr} {h : Hp} {xs : Array Value} {K : Next → Hp → Prop} : dwp Try.prog F (callFunc 57 xs) h K = K (.enter 57 xs) h := dwp_callFunc (by unfold entB; rw [Try.func57]; rfl)
theorem re57 {F : Fr} {S : Hp} {xs : Array Value} : rval Try.prog F (callFunc 57 xs) S = some (.enter 57 xs) := rval_callFunc (by unfold entB; rw [Try.func57]; rfl)
theorem ni57 : Try.prog.inits.idxOf? 57 = none := by kernel_rfl
theorem en59 {F : Fr} {h : Hp} {xs : Array Value} {K : Next → Hp → Prop} : dwp Try.prog F (callFunc 59 xs) h K = K (.enter 59 xs) h := dwp_callFunc (by unfold entB; rw [Try.func59]; rfl)
theorem re59 {F : Fr} {S : Hp} {xs : Array Value} : rval Try.prog F (callFunc 59 xs) S = some (.enter 59 xs) := rval_callFunc (by unfold entB; rw [Try.func59]; rfl)
theorem ni59 : Try.prog.inits.idxOf? 59 = none := by kernel_rfl
theorem en82 {F : Fr} {h : Hp} {xs : Array Value} {K : Next → Hp → Prop} : dwp Try.prog F (callFunc 82 xs) h K = K (.enter 82 xs) h := dwp_callFunc (by unfold entB; rw [Try.func82]; rfl)
theorem re82 {F : Fr} {S : Hp} {xs : Array Value} : rval Try.prog F (callFunc 82 xs) S = some (.enter 82 xs) := rval_callFunc (by unfold entB; rw [Try.func82]; rfl)
theorem ni82 : Try.prog.inits.idxOf? 82 = none := by kernel_rfl
theorem en83 {F : Fr} {h : Hp} {xs : Array Value} {K : Next → Hp → Prop} : dwp Try.prog F (callFunc 83 xs) h K = K (.enter 83 xs) h := dwp_callFunc (by unfold entB; rw [Try.func83]; rfl)
theorem re83 {F : Fr} {S : Hp} {xs : Array Value} : rval Try.prog F (callFunc 83 xs) S = some (.enter 83 xs) := rval_callFunc (by unfold entB; rw [Try.func83]; rfl)
theorem ni83 : Try.prog.inits.idxOf? 83 = none := by kernel_rfl
theorem en84 {F : Fr} {h : Hp} {xs : Array Value} {K : Next → Hp → Prop} : dwp Try.prog F (callFunc 84 xs) h K = K (.enter 84 xs) h := dwp_callFunc (by unfold entB; rw [Try.func84]; rfl)
theorem re84 {F : Fr} {S : Hp} {xs : Array Value} : rval Try.prog F (callFunc 84 xs) S = some (.enter 84 xs) := rval_callFunc (by unfold entB; rw [Try.func84]; rfl)
theorem ni84 : Try.prog.inits.idxOf? 84 = none := by kernel_rfl
theorem en85 {F : Fr} {h : Hp} {xs : Array Value} {K : Next → Hp → Prop} : dwp Try.prog F (callFunc 85 xs) h K = K (.enter 85 xs) h := dwp_callFunc (by unfold entB; rw [Try.func85]; rfl)
theorem re85 {F : Fr} {S : Hp} {xs : Array Value} : rval Try.prog F (callFunc 85 xs) S = some (.enter 85 xs) := rval_callFunc (by unfold entB; rw [Try.func85]; rfl)
theorem ni85 : Try.prog.inits.idxOf? 85 = none := by kernel_rfl
theorem en86 {F : Fr} {h : Hp} {xs : Array Value} {K : Next → Hp → Prop} : dwp Try.prog F (callFunc 86 xs) h K = K (.enter 86 xs) h := dwp_callFunc (by unfold entB; rw [Try.func86]; rfl)
theorem re86 {F : Fr} {S : Hp} {xs : Array Value} : rval Try.prog F (callFunc 86 xs) S = some (.enter 86 xs) := rval_callFunc (by unfold entB; rw [Try.func86]; rfl)
theorem ni86 : Try.prog.inits.idxOf? 86 = none := by kernel_rfl
theorem en87 {F : Fr} {h : Hp} {xs : Array Value} {K : Next → Hp → Prop} : dwp Try.prog F (callFunc 87 xs) h K = K (.enter 87 xs) h := dwp_callFunc (by unfold entB; rw [Try.func87]; rfl)
theorem re87 {F : Fr} {S : Hp} {xs : Array Value} : rval Try.prog F (callFunc 87 xs) S = some (.enter 87 xs) := rval_callFunc (by unfold entB; rw [Try.func87]; rfl)
theorem ni87 : Try.prog.inits.idxOf? 87 = none := by kernel_rfl
theorem en88 {F : Fr} {h : Hp} {xs : Array Value} {K : Next → Hp → Prop} : dwp Try.prog F (callFunc 88 xs) h K = K (.enter 88 xs) h := dwp_callFunc (by unfold entB; rw [Try.func88]; rfl)
theorem re88 {F : Fr} {S : Hp} {xs : Array Value} : rval Try.prog F (callFunc 88 xs) S = some (.enter 88 xs) := rval_callFunc (by unfold entB; rw [Try.func88]; rfl)
theorem ni88 : Try.prog.inits.idxOf? 88 = none := by kernel_rfl
theorem en89 {F : Fr} {h : Hp} {xs : Array Value} {K : Next → Hp → Prop} : dwp Try.prog F (callFunc 89 xs) h K = K (.enter 89 xs) h := dwp_callFunc (by unfold entB; rw [Try.func89]; rfl)
theorem re89 {F : Fr} {S : Hp} {xs : Array Value} : rval Try.prog F (callFunc 89 xs) S = some (.enter 89 xs) := rval_callFunc (by unfold entB; rw [Try.func89]; rfl)
theorem ni89 : Try.prog.inits.idxOf? 89 = none := by kernel_rfl
theorem en90 {F : Fr} {h : Hp} {xs : Array Value} {K : Next → Hp → Prop} : dwp Try.prog F (callFunc 90 xs) h K = K (.enter 90 xs) h := dwp_callFunc (by unfold entB; rw [Try.func90]; rfl)
theorem re90 {F : Fr} {S : Hp} {xs : Array Value} : rval Try.prog F (callFunc 90 xs) S = some (.enter 90 xs) := rval_callFunc (by unfold entB; rw [Try.func90]; rfl)
theorem ni90 : Try.prog.inits.idxOf? 90 = none := by kernel_rfl
theorem en91 {F : Fr} {h : Hp} {xs : Array Value} {K : Next → Hp → Prop} : dwp Try.prog F (callFunc 91 xs) h K = K (.enter 91 xs) h := dwp_callFunc (by unfold entB; rw [Try.func91]; rfl)
theorem re91 {F : Fr} {S : Hp} {xs : Array Value} : rval Try.prog F (callFunc 91 xs) S = some (.enter 91 xs) := rval_callFunc (by unfold entB; rw [Try.func91]; rfl)
theorem ni91 : Try.prog.inits.idxOf? 91 = none := by kernel_rfl
theorem en92 {F : Fr} {h : Hp} {xs : Array Value} {K : Next → Hp → Prop} : dwp Try.prog F (callFunc 92 xs) h K = K (.enter 92 xs) h := dwp_callFunc (by unfold entB; rw [Try.func92]; rfl)
theorem re92 {F : Fr} {S : Hp} {xs : Array Value} : rval Try.prog F (callFunc 92 xs) S = some (.enter 92 xs) := rval_callFunc (by unfold entB; rw [Try.func92]; rfl)
theorem ni92 : Try.prog.inits.idxOf? 92 = none := by kernel_rfl
theorem en93 {F : Fr} {h : Hp} {xs : Array Value} {K : Next → Hp → Prop} : dwp Try.prog F (callFunc 93 xs) h K = K (.enter 93 xs) h := dwp_callFunc (by unfold entB; rw [Try.func93]; rfl)
theorem re93 {F : Fr} {S : Hp} {xs : Array Value} : rval Try.prog F (callFunc 93 xs) S = some (.enter 93 xs) := rval_callFunc (by unfold entB; rw [Try.func93]; rfl)
theorem ni93 : Try.prog.inits.idxOf? 93 = none := by kernel_rfl
theorem en94 {F : Fr} {h : Hp} {xs : Array Value} {K : Next → Hp → Prop} : dwp Try.prog F (callFunc 94 xs) h K = K (.enter 94 xs) h := dwp_callFunc (by unfold entB; rw [Try.func94]; rfl)
theorem re94 {F : Fr} {S : Hp} {xs : Array Value} : rval Try.prog F (callFunc 94 xs) S = some (.enter 94 xs) := rval_callFunc (by unfold entB; rw [Try.func94]; rfl)
theorem ni94 : Try.prog.inits.idxOf? 94 = none := by kernel_rfl
theorem en95 {F : Fr} {h : Hp} {xs : Array Value} {K : Next → Hp → Prop} : dwp Try.prog F (callFunc 95 xs) h K = K (.enter 95 xs) h := dwp_callFunc (by unfold entB; rw [Try.func95]; rfl)
theorem re95 {F : Fr} {S : Hp} {xs : Array Value} : rval Try.prog F (callFunc 95 xs) S = some (.enter 95 xs) := rval_callFunc (by unfold entB; rw [Try.func95]; rfl)
theorem ni95 : Try.prog.inits.idxOf? 95 = none := by kernel_rfl
theorem en96 {F : Fr} {h : Hp} {xs : Array Value} {K : Next → Hp → Prop} : dwp Try.prog F (callFunc 96 xs) h K = K (.enter 96 xs) h := dwp_callFunc (by unfold entB; rw [Try.func96]; rfl)
theorem re96 {F : Fr} {S : Hp} {xs : Array Value} : rval Try.prog F (callFunc 96 xs) S = some (.enter 96 xs) := rval_callFunc (by unfold entB; rw [Try.func96]; rfl)
theorem ni96 : Try.prog.inits.idxOf? 96 = none := by kernel_rfl
theorem en97 {F : Fr} {h : Hp} {xs : Array Value} {K : Next → Hp → Prop} : dwp Try.prog F (callFunc 97 xs) h K = K (.enter 97 xs) h := dwp_callFunc (by unfold entB; rw [Try.func97]; rfl)
theorem re97 {F : Fr} {S : Hp} {xs : Array Value} : rval Try.prog F (callFunc 97 xs) S = some (.enter 97 xs) := rval_callFunc (by unfold entB; rw [Try.func97]; rfl)
theorem ni97 : Try.prog.inits.idxOf? 97 = none := by kernel_rfl
theorem en98 {F : Fr} {h : Hp} {xs : Array Value} {K : Next → Hp → Prop} : dwp Try.prog F (callFunc 98 xs) h K = K (.enter 98 xs) h := dwp_callFunc (by unfold entB; rw [Try.func98]; rfl)
theorem re98 {F : Fr} {S : Hp} {xs : Array Value} : rval Try.prog F (callFunc 98 xs) S = some (.enter 98 xs) := rval_callFunc (by unfold entB; rw [Try.func98]; rfl)
theorem ni98 : Try.prog.inits.idxOf? 98 = none := by kernel_rfl
theorem en99 {F : Fr} {h : Hp} {xs : Array Value} {K : Next → Hp → Prop} : dwp Try.prog F (callFunc 99 xs) h K = K (.enter 99 xs) h := dwp_callFunc (by unfold entB; rw [Try.func99]; rfl)
theorem re99 {F : Fr} {S : Hp} {xs : Array Value} : rval Try.prog F (callFunc 99 xs) S = some (.enter 99 xs) := rval_callFunc (by unfold entB; rw [Try.func99]; rfl)
theorem ni99 : Try.prog.inits.idxOf? 99 = none := by kernel_rfl
theorem en100 {F : Fr} {h : Hp} {xs : Array Value} {K : Next → Hp → Prop} : dwp Try.prog F (callFunc 100 xs) h K = K (.enter 100 xs) h := dwp_callFunc (by unfold entB; rw [Try.func100]; rfl)
theorem re100 {F : Fr} {S : Hp} {xs : Array Value} : rval Try.prog F (callFunc 100 xs) S = some (.enter 100 xs) := rval_callFunc (by unfold entB; rw [Try.func100]; rfl)
theorem ni100 : Try.prog.inits.idxOf? 100 = none := by kernel_rfl
theorem en101 {F : Fr} {h : Hp} {xs : Array Value} {K : Next → Hp → Prop} : dwp Try.prog F (callFunc 101 xs) h K = K (.enter 101 xs) h := dwp_callFunc (by unfold entB; rw [Try.func101]; rfl)
theorem re101 {F : Fr} {S : Hp} {xs : Array Value} : rval Try.prog F (callFunc 101 xs) S = some (.enter 101 xs) := rval_callFunc (by unfold entB; rw [Try.func101]; rfl)
theorem ni101 : Try.prog.inits.idxOf? 101 = none := by kernel_rfl
theorem en102 {F : Fr} {h : Hp} {xs : Array Value} {K : Next → Hp → Prop} : dwp Try.prog F (callFunc 102 xs) h K = K (.enter 102 xs) h := dwp_callFunc (by unfold entB; rw [Try.func102]; rfl)
theorem re102 {F : Fr} {S : Hp} {xs : Array Value} : rval Try.prog F (callFunc 102 xs) S = some (.enter 102 xs) := rval_callFunc (by unfold entB; rw [Try.func102]; rfl)
theorem ni102 : Try.prog.inits.idxOf? 102 = none := by kernel_rfl
theorem en103 {F : Fr} {h : Hp} {xs : Array Value} {K : Next → Hp → Prop} : dwp Try.prog F (callFunc 103 xs) h K = K (.enter 103 xs) h := dwp_callFunc (by unfold entB; rw [Try.func103]; rfl)
theorem re103 {F : Fr} {S : Hp} {xs : Array Value} : rval Try.prog F (callFunc 103 xs) S = some (.enter 103 xs) := rval_callFunc (by unfold entB; rw [Try.func103]; rfl)
theorem ni103 : Try.prog.inits.idxOf? 103 = none := by kernel_rfl
theorem en104 {F : Fr} {h : Hp} {xs : Array Value} {K : Next → Hp → Prop} : dwp Try.prog F (callFunc 104 xs) h K = K (.enter 104 xs) h := dwp_callFunc (by unfold entB; rw [Try.func104]; rfl)
theorem re104 {F : Fr} {S : Hp} {xs : Array Value} : rval Try.prog F (callFunc 104 xs) S = some (.enter 104 xs) := rval_callFunc (by unfold entB; rw [Try.func104]; rfl)
theorem ni104 : Try.prog.inits.idxOf? 104 = none := by kernel_rfl
theorem en105 {F : Fr} {h : Hp} {xs : Array Value} {K : Next → Hp → Prop} : dwp Try.prog F (callFunc 105 xs) h K = K (.enter 105 xs) h := dwp_callFunc (by unfold entB; rw [Try.func105]; rfl)
theorem re105 {F : Fr} {S : Hp} {xs : Array Value} : rval Try.prog F (callFunc 105 xs) S = some (.enter 105 xs) := rval_callFunc (by unfold entB; rw [Try.func105]; rfl)
theorem ni105 : Try.prog.inits.idxOf? 105 = none := by kernel_rfl
theorem en117 {F : Fr} {h : Hp} {xs : Array Value} {K : Next → Hp → Prop} : dwp Try.prog F (callFunc 117 xs) h K = K (.enter 117 xs) h := dwp_callFunc (by unfold entB; rw [Try.func117]; rfl)
theorem re117 {F : Fr} {S : Hp} {xs : Array Value} : rval Try.prog F (callFunc 117 xs) S = some (.enter 117 xs) := rval_callFunc (by unfold entB; rw [Try.func117]; rfl)
theorem ni117 : Try.prog.inits.idxOf? 117 = none := by kernel_rfl
theorem en118 {F : Fr} {h : Hp} {xs : Array Value} {K : Next → Hp → Prop} : dwp Try.prog F (callFunc 118 xs) h K = K (.enter 118 xs) h := dwp_callFunc (by unfold entB; rw [Try.func118]; rfl)
theorem re118 {F : Fr} {S : Hp} {xs : Array Value} : rval Try.prog F (callFunc 118 xs) S = some (.enter 118 xs) := rval_callFunc (by unfold entB; rw [Try.func118]; rfl)
theorem ni118 : Try.prog.inits.idxOf? 118 = none := by kernel_rfl
theorem en123 {F : Fr} {h : Hp} {xs : Array Value} {K : Next → Hp → Prop} : dwp Try.prog F (callFunc 123 xs) h K = K (.enter 123 xs) h := dwp_callFunc (by unfold entB; rw [Try.func123]; rfl)
theorem re123 {F : Fr} {S : Hp} {xs : Array Value} : rval Try.prog F (callFunc 123 xs) S = some (.enter 123 xs) := rval_callFunc (by unfold entB; rw [Try.func123]; rfl)
theorem ni123 : Try.prog.inits.idxOf? 123 = none := by kernel_rfl
theorem en124 {F : Fr} {h : Hp} {xs : Array Value} {K : Next → Hp → Prop} : dwp Try.prog F (callFunc 124 xs) h K = K (.enter 124 xs) h := dwp_callFunc (by unfold entB; rw [Try.func124]; rfl)
theorem re124 {F : Fr} {S : Hp} {xs : Array Value} : rval Try.prog F (callFunc 124 xs) S = some (.enter 124 xs) := rval_callFunc (by unfold entB; rw [Try.func124]; rfl)
theorem ni124 : Try.prog.inits.idxOf? 124 = none := by kernel_rfl
theorem en125 {F : Fr} {h : Hp} {xs : Array Value} {K : Next → Hp → Prop} : dwp Try.prog F (callFunc 125 xs) h K = K (.enter 125 xs) h := dwp_callFunc (by unfold entB; rw [Try.func125]; rfl)
theorem re125 {F : Fr} {S : Hp} {xs : Array Value} : rval Try.prog F (callFunc 125 xs) S = some (.enter 125 xs) := rval_callFunc (by unfold entB; rw [Try.func125]; rfl)
theorem ni125 : Try.prog.inits.idxOf? 125 = none := by kernel_rfl
theorem en142 {F : Fr} {h : Hp} {xs : Array Value} {K : Next → Hp → Prop} : dwp Try.prog F (callFunc 142 xs) h K = K (.enter 142 xs) h := dwp_callFunc (by unfold entB; rw [Try.func142]; rfl)
theorem re142 {F : Fr} {S : Hp} {xs : Array Value} : rval Try.prog F (callFunc 142 xs) S = some (.enter 142 xs) := rval_callFunc (by unfold entB; rw [Try.func142]; rfl)
theorem ni142 : Try.prog.inits.idxOf? 142 = none := by kernel_rfl
theorem en144 {F : Fr} {h : Hp} {xs : Array Value} {K : Next → Hp → Prop} : dwp Try.prog F (callFunc 144 xs) h K = K (.enter 144 xs) h := dwp_callFunc (by unfold entB; rw [Try.func144]; rfl)
theorem re144 {F : Fr} {S : Hp} {xs : Array Value} : rval Try.prog F (callFunc 144 xs) S = some (.enter 144 xs) := rval_callFunc (by unfold entB; rw [Try.func144]; rfl)
theorem ni144 : Try.prog.inits.idxOf? 144 = none := by kernel_rfl
theorem en145 {F : Fr} {h : Hp} {xs : Array Value} {K : Next → Hp → Prop} : dwp Try.prog F (callFunc 145 xs) h K = K (.enter 145 xs) h := dwp_callFunc (by unfold entB; rw [Try.func145]; rfl)
theorem re145 {F : Fr} {S : Hp} {xs : Array Value} : rval Try.prog F (callFunc 145 xs) S = some (.enter 145 xs) := rval_callFunc (by unfold entB; rw [Try.func145]; rfl)
theorem ni145 : Try.prog.inits.idxOf? 145 = none := by kernel_rfl
theorem en162 {F : Fr} {h : Hp} {xs : Array Value} {K : Next → Hp → Prop} : dwp Try.prog F (callFunc 162 xs) h K = K (.enter 162 xs) h := dwp_callFunc (by unfold entB; rw [Try.func162]; rfl)
theorem re162 {F : Fr} {S : Hp} {xs : Array Value} : rval Try.prog F (callFunc 162 xs) S = some (.enter 162 xs) := rval_callFunc (by unfold entB; rw [Try.func162]; rfl)
theorem ni162 : Try.prog.inits.idxOf? 162 = none := by kernel_rfl
theorem en163 {F : Fr} {h : Hp} {xs : Array Value} {K : Next → Hp → Prop} : dwp Try.prog F (callFunc 163 xs) h K = K (.enter 163 xs) h := dwp_callFunc (by unfold entB; rw [Try.func163]; rfl)
theorem re163 {F : Fr} {S : Hp} {xs : Array Value} : rval Try.prog F (callFunc 163 xs) S = some (.enter 163 xs) := rval_callFunc (by unfold entB; rw [Try.func163]; rfl)
theorem ni163 : Try.prog.inits.idxOf? 163 = none := by kernel_rfl
theorem en164 {F : Fr} {h : Hp} {xs : Array Value} {K : Next → Hp → Prop} : dwp Try.prog F (callFunc 164 xs) h K = K (.enter 164 xs) h := dwp_callFunc (by unfold entB; rw [Try.func164]; rfl)
theorem re164 {F : Fr} {S : Hp} {xs : Array Value} : rval Try.prog F (callFunc 164 xs) S = some (.enter 164 xs) := rval_callFunc (by unfold entB; rw [Try.func164]; rfl)
theorem ni164 : Try.prog.inits.idxOf? 164 = none := by kernel_rfl
theorem en165 {F : Fr} {h : Hp} {xs : Array Value} {K : Next → Hp → Prop} : dwp Try.prog F (callFunc 165 xs) h K = K (.enter 165 xs) h := dwp_callFunc (by unfold entB; rw [Try.func165]; rfl)
theorem re165 {F : Fr} {S : Hp} {xs : Array Value} : rval Try.prog F (callFunc 165 xs) S = some (.enter 165 xs) := rval_callFunc (by unfold entB; rw [Try.func165]; rfl)
theorem ni165 : Try.prog.inits.idxOf? 165 = none := by kernel_rfl
theorem en166 {F : Fr} {h : Hp} {xs : Array Value} {K : Next → Hp → Prop} : dwp Try.prog F (callFunc 166 xs) h K = K (.enter 166 xs) h := dwp_callFunc (by unfold entB; rw [Try.func166]; rfl)
theorem re166 {F : Fr} {S : Hp} {xs : Array Value} : rval Try.prog F (callFunc 166 xs) S = some (.enter 166 xs) := rval_callFunc (by unfold entB; rw [Try.func166]; rfl)
theorem ni166 : Try.prog.inits.idxOf? 166 = none := by kernel_rfl
theorem en167 {F : Fr} {h : Hp} {xs : Array Value} {K : Next → Hp → Prop} : dwp Try.prog F (callFunc 167 xs) h K = K (.enter 167 xs) h := dwp_callFunc (by unfold entB; rw [Try.func167]; rfl)
theorem re167 {F : Fr} {S : Hp} {xs : Array Value} : rval Try.prog F (callFunc 167 xs) S = some (.enter 167 xs) := rval_callFunc (by unfold entB; rw [Try.func167]; rfl)
theorem ni167 : Try.prog.inits.idxOf? 167 = none := by kernel_rfl
theorem en168 {F : Fr} {h : Hp} {xs : Array Value} {K : Next → Hp → Prop} : dwp Try.prog F (callFunc 168 xs) h K = K (.enter 168 xs) h := dwp_callFunc (by unfold entB; rw [Try.func168]; rfl)
theorem re168 {F : Fr} {S : Hp} {xs : Array Value} : rval Try.prog F (callFunc 168 xs) S = some (.enter 168 xs) := rval_callFunc (by unfold entB; rw [Try.func168]; rfl)
theorem ni168 : Try.prog.inits.idxOf? 168 = none := by kernel_rfl
theorem en169 {F : Fr} {h : Hp} {xs : Array Value} {K : Next → Hp → Prop} : dwp Try.prog F (callFunc 169 xs) h K = K (.enter 169 xs) h := dwp_callFunc (by unfold entB; rw [Try.func169]; rfl)
theorem re169 {F : Fr} {S : Hp} {xs : Array Value} : rval Try.prog F (callFunc 169 xs) S = some (.enter 169 xs) := rval_callFunc (by unfold entB; rw [Try.func169]; rfl)
theorem ni169 : Try.prog.inits.idxOf? 169 = none := by kernel_rfl
theorem en170 {F : Fr} {h : Hp} {xs : Array Value} {K : Next → Hp → Prop} : dwp Try.prog F (callFunc 170 xs) h K = K (.enter 170 xs) h := dwp_callFunc (by unfold entB; rw [Try.func170]; rfl)
theorem re170 {F : Fr} {S : Hp} {xs : Array Value} : rval Try.prog F (callFunc 170 xs) S = some (.enter 170 xs) := rval_callFunc (by unfold entB; rw [Try.func170]; rfl)
theorem ni170 : Try.prog.inits.idxOf? 170 = none := by kernel_rfl
theorem en171 {F : Fr} {h : Hp} {xs : Array Value} {K : Next → Hp → Prop} : dwp Try.prog F (callFunc 171 xs) h K = K (.enter 171 xs) h := dwp_callFunc (by unfold entB; rw [Try.func171]; rfl)
theorem re171 {F : Fr} {S : Hp} {xs : Array Value} : rval Try.prog F (callFunc 171 xs) S = some (.enter 171 xs) := rval_callFunc (by unfold entB; rw [Try.func171]; rfl)
theorem ni171 : Try.prog.inits.idxOf? 171 = none := by kernel_rfl
theorem en172 {F : Fr} {h : Hp} {xs : Array Value} {K : Next → Hp → Prop} : dwp Try.prog F (callFunc 172 xs) h K = K (.enter 172 xs) h := dwp_callFunc (by unfold entB; rw [Try.func172]; rfl)
theorem re172 {F : Fr} {S : Hp} {xs : Array Value} : rval Try.prog F (callFunc 172 xs) S = some (.enter 172 xs) := rval_callFunc (by unfold entB; rw [Try.func172]; rfl)
theorem ni172 : Try.prog.inits.idxOf? 172 = none := by kernel_rfl
theorem en173 {F : Fr} {h : Hp} {xs : Array Value} {K : Next → Hp → Prop} : dwp Try.prog F (callFunc 173 xs) h K = K (.enter 173 xs) h := dwp_callFunc (by unfold entB; rw [Try.func173]; rfl)
theorem re173 {F : Fr} {S : Hp} {xs : Array Value} : rval Try.prog F (callFunc 173 xs) S = some (.enter 173 xs) := rval_callFunc (by unfold entB; rw [Try.func173]; rfl)
theorem ni173 : Try.prog.inits.idxOf? 173 = none := by kernel_rfl
theorem en174 {F : Fr} {h : Hp} {xs : Array Value} {K : Next → Hp → Prop} : dwp Try.prog F (callFunc 174 xs) h K = K (.enter 174 xs) h := dwp_callFunc (by unfold entB; rw [Try.func174]; rfl)
theorem re174 {F : Fr} {S : Hp} {xs : Array Value} : rval Try.prog F (callFunc 174 xs) S = some (.enter 174 xs) := rval_callFunc (by unfold entB; rw [Try.func174]; rfl)
theorem ni174 : Try.prog.inits.idxOf? 174 = none := by kernel_rfl
theorem en175 {F : Fr} {h : Hp} {xs : Array Value} {K : Next → Hp → Prop} : dwp Try.prog F (callFunc 175 xs) h K = K (.enter 175 xs) h := dwp_callFunc (by unfold entB; rw [Try.func175]; rfl)
theorem re175 {F : Fr} {S : Hp} {xs : Array Value} : rval Try.prog F (callFunc 175 xs) S = some (.enter 175 xs) := rval_callFunc (by unfold entB; rw [Try.func175]; rfl)
theorem ni175 : Try.prog.inits.idxOf? 175 = none := by kernel_rfl
theorem en176 {F : Fr} {h : Hp} {xs : Array Value} {K : Next → Hp → Prop} : dwp Try.prog F (callFunc 176 xs) h K = K (.enter 176 xs) h := dwp_callFunc (by unfold entB; rw [Try.func176]; rfl)
theorem re176 {F : Fr} {S : Hp} {xs : Array Value} : rval Try.prog F (callFunc 176 xs) S = some (.enter 176 xs) := rval_callFunc (by unfold entB; rw [Try.func176]; rfl)
theorem ni176 : Try.prog.inits.idxOf? 176 = none := by kernel_rfl
theorem en177 {F : Fr} {h : Hp} {xs : Array Value} {K : Next → Hp → Prop} : dwp Try.prog F (callFunc 177 xs) h K = K (.enter 177 xs) h := dwp_callFunc (by unfold entB; rw [Try.func177]; rfl)
theorem re177 {F : Fr} {S : Hp} {xs : Array Value} : rval Try.prog F (callFunc 177 xs) S = some (.enter 177 xs) := rval_callFunc (by unfold entB; rw [Try.func177]; rfl)
theorem ni177 : Try.prog.inits.idxOf? 177 = none := by kernel_rfl
theorem en178 {F : Fr} {h : Hp} {xs : Array Value} {K : Next → Hp → Prop} : dwp Try.prog F (callFunc 178 xs) h K = K (.enter 178 xs) h := dwp_callFunc (by unfold entB; rw [Try.func178]; rfl)
theorem re178 {F : Fr} {S : Hp} {xs : Array Value} : rval Try.prog F (callFunc 178 xs) S = some (.enter 178 xs) := rval_callFunc (by unfold entB; rw [Try.func178]; rfl)
theorem ni178 : Try.prog.inits.idxOf? 178 = none := by kernel_rfl
theorem en179 {F : Fr} {h : Hp} {xs : Array Value} {K : Next → Hp → Prop} : dwp Try.prog F (callFunc 179 xs) h K = K (.enter 179 xs) h := dwp_callFunc (by unfold entB; rw [Try.func179]; rfl)
theorem re179 {F : Fr} {S : Hp} {xs : Array Value} : rval Try.prog F (callFunc 179 xs) S = some (.enter 179 xs) := rval_callFunc (by unfold entB; rw [Try.func179]; rfl)
theorem ni179 : Try.prog.inits.idxOf? 179 = none := by kernel_rfl
theorem en180 {F : Fr} {h : Hp} {xs : Array Value} {K : Next → Hp → Prop} : dwp Try.prog F (callFunc 180 xs) h K = K (.enter 180 xs) h := dwp_callFunc (by unfold entB; rw [Try.func180]; rfl)
theorem re180 {F : Fr} {S : Hp} {xs : Array Value} : rval Try.prog F (callFunc 180 xs) S = some (.enter 180 xs) := rval_callFunc (by unfold entB; rw [Try.func180]; rfl)
theorem ni180 : Try.prog.inits.idxOf? 180 = none := by kernel_rfl
theorem en181 {F : Fr} {h : Hp} {xs : Array Value} {K : Next → Hp → Prop} : dwp Try.prog F (callFunc 181 xs) h K = K (.enter 181 xs) h := dwp_callFunc (by unfold entB; rw [Try.func181]; rfl)
theorem re181 {F : Fr} {S : Hp} {xs : Array Value} : rval Try.prog F (callFunc 181 xs) S = some (.enter 181 xs) := rval_callFunc (by unfold entB; rw [Try.func181]; rfl)
theorem ni181 : Try.prog.inits.idxOf? 181 = none := by kernel_rfl
theorem en182 {F : Fr} {h : Hp} {xs : Array Value} {K : Next → Hp → Prop} : dwp Try.prog F (callFunc 182 xs) h K = K (.enter 182 xs) h := dwp_callFunc (by unfold entB; rw [Try.func182]; rfl)
theorem re182 {F : Fr} {S : Hp} {xs : Array Value} : rval Try.prog F (callFunc 182 xs) S = some (.enter 182 xs) := rval_callFunc (by unfold entB; rw [Try.func182]; rfl)
theorem ni182 : Try.prog.inits.idxOf? 182 = none := by kernel_rfl
theorem en200 {F : Fr} {h : Hp} {xs : Array Value} {K : Next → Hp → Prop} : dwp Try.prog F (callFunc 200 xs) h K = K (.enter 200 xs) h := dwp_callFunc (by unfold entB; rw [Try.func200]; rfl)
theorem re200 {F : Fr} {S : Hp} {xs : Array Value} : rval Try.prog F (callFunc 200 xs) S = some (.enter 200 xs) := rval_callFunc (by unfold entB; rw [Try.func200]; rfl)
theorem ni200 : Try.prog.inits.idxOf? 200 = none := by kernel_rfl
theorem en201 {F : Fr} {h : Hp} {xs : Array Value} {K : Next → Hp → Prop} : dwp Try.prog F (callFunc 201 xs) h K = K (.enter 201 xs) h := dwp_callFunc (by unfold entB; rw [Try.func201]; rfl)
theorem re201 {F : Fr} {S : Hp} {xs : Array Value} : rval Try.prog F (callFunc 201 xs) S = some (.enter 201 xs) := rval_callFunc (by unfold entB; rw [Try.func201]; rfl)
theorem ni201 : Try.prog.inits.idxOf? 201 = none := by kernel_rfl
theorem en202 {F : Fr} {h : Hp} {xs : Array Value} {K : Next → Hp → Prop} : dwp Try.prog F (callFunc 202 xs) h K = K (.enter 202 xs) h := dwp_callFunc (by unfold entB; rw [Try.func202]; rfl)
theorem re202 {F : Fr} {S : Hp} {xs : Array Value} : rval Try.prog F (callFunc 202 xs) S = some (.enter 202 xs) := rval_callFunc (by unfold entB; rw [Try.func202]; rfl)
theorem ni202 : Try.prog.inits.idxOf? 202 = none := by kernel_rfl
theorem en243 {F : Fr} {h : Hp} {xs : Array Value} {K : Next → Hp → Prop} : dwp Try.prog F (callFunc 243 xs) h K = K (.enter 243 xs) h := dwp_callFunc (by unfold entB; rw [Try.func243]; rfl)
theorem re243 {F : Fr} {S : Hp} {xs : Array Value} : rval Try.prog F (callFunc 243 xs) S = some (.enter 243 xs) := rval_callFunc (by unfold entB; rw [Try.func243]; rfl)
theorem ni243 : Try.prog.inits.idxOf? 243 = none := by kernel_rfl
theorem en244 {F : Fr} {h : Hp} {xs : Array Value} {K : Next → Hp → Prop} : dwp Try.prog F (callFunc 244 xs) h K = K (.enter 244 xs) h := dwp_callFunc (by unfold entB; rw [Try.func244]; rfl)
theorem re244 {F : Fr} {S : Hp} {xs : Array Value} : rval Try.prog F (callFunc 244 xs) S = some (.enter 244 xs) := rval_callFunc (by unfold entB; rw [Try.func244]; rfl)
theorem ni244 : Try.prog.inits.idxOf? 244 = none := by kernel_rfl
theorem en245 {F : Fr} {h : Hp} {xs : Array Value} {K : Next → Hp → Prop} : dwp Try.prog F (callFunc 245 xs) h K = K (.enter 245 xs) h := dwp_callFunc (by unfold entB; rw [Try.func245]; rfl)
theorem re245 {F : Fr} {S : Hp} {xs : Array Value} : rval Try.prog F (callFunc 245 xs) S = some (.enter 245 xs) := rval_callFunc (by unfold entB; rw [Try.func245]; rfl)
theorem ni245 : Try.prog.inits.idxOf? 245 = none := by kernel_rfl
theorem en246 {F : Fr} {h : Hp} {xs : Array Value} {K : Next → Hp → Prop} : dwp Try.prog F (callFunc 246 xs) h K = K (.enter 246 xs) h := dwp_callFunc (by unfold entB; rw [Try.func246]; rfl)
theorem re246 {F : Fr} {S : Hp} {xs : Array Value} : rval Try.prog F (callFunc 246 xs) S = some (.enter 246 xs) := rval_callFunc (by unfold entB; rw [Try.func246]; rfl)
theorem ni246 : Try.prog.inits.idxOf? 246 = none := by kernel_rfl
theorem en247 {F : Fr} {h : Hp} {xs : Array Value} {K : Next → Hp → Prop} : dwp Try.prog F (callFunc 247 xs) h K = K (.enter 247 xs) h := dwp_callFunc (by unfold entB; rw [Try.func247]; rfl)
theorem re247 {F : Fr} {S : Hp} {xs : Array Value} : rval Try.prog F (callFunc 247 xs) S = some (.enter 247 xs) := rval_callFunc (by unfold entB; rw [Try.func247]; rfl)
theorem ni247 : Try.prog.inits.idxOf? 247 = none := by kernel_rfl
theorem en248 {F : Fr} {h : Hp} {xs : Array Value} {K : Next → Hp → Prop} : dwp Try.prog F (callFunc 248 xs) h K = K (.enter 248 xs) h := dwp_callFunc (by unfold entB; rw [Try.func248]; rfl)
theorem re248 {F : Fr} {S : Hp} {xs : Array Value} : rval Try.prog F (callFunc 248 xs) S = some (.enter 248 xs) := rval_callFunc (by unfold entB; rw [Try.func248]; rfl)
theorem ni248 : Try.prog.inits.idxOf? 248 = none := by kernel_rfl
theorem en249 {F : Fr} {h : Hp} {xs : Array Value} {K : Next → Hp → Prop} : dwp Try.prog F (callFunc 249 xs) h K = K (.enter 249 xs) h := dwp_callFunc (by unfold entB; rw [Try.func249]; rfl)
theorem re249 {F : Fr} {S : Hp} {xs : Array Value} : rval Try.prog F (callFunc 249 xs) S = some (.enter 249 xs) := rval_callFunc (by unfold entB; rw [Try.func249]; rfl)
theorem ni249 : Try.prog.inits.idxOf? 249 = none := by kernel_rfl
theorem en250 {F : Fr} {h : Hp} {xs : Array Value} {K : Next → Hp → Prop} : dwp Try.prog F (callFunc 250 xs) h K = K (.enter 250 xs) h := dwp_callFunc (by unfold entB; rw [Try.func250]; rfl)
theorem re250 {F : Fr} {S : Hp} {xs : Array Value} : rval Try.prog F (callFunc 250 xs) S = some (.enter 250 xs) := rval_callFunc (by unfold entB; rw [Try.func250]; rfl)
theorem ni250 : Try.prog.inits.idxOf? 250 = none := by kernel_rfl
theorem en251 {F : Fr} {h : Hp} {xs : Array Value} {K : Next → Hp → Prop} : dwp Try.prog F (callFunc 251 xs) h K = K (.enter 251 xs) h := dwp_callFunc (by unfold entB; rw [Try.func251]; rfl)
theorem re251 {F : Fr} {S : Hp} {xs : Array Value} : rval Try.prog F (callFunc 251 xs) S = some (.enter 251 xs) := rval_callFunc (by unfold entB; rw [Try.func251]; rfl)
theorem ni251 : Try.prog.inits.idxOf? 251 = none := by kernel_rfl
theorem en252 {F : Fr} {h : Hp} {xs : Array Value} {K : Next → Hp → Prop} : dwp Try.prog F (callFunc 252 xs) h K = K (.enter 252 xs) h := dwp_callFunc (by unfold entB; rw [Try.func252]; rfl)
theorem re252 {F : Fr} {S : Hp} {xs : Array Value} : rval Try.prog F (callFunc 252 xs) S = some (.enter 252 xs) := rval_callFunc (by unfold entB; rw [Try.func252]; rfl)
theorem ni252 : Try.prog.inits.idxOf? 252 = none := by kernel_rfl
theorem en253 {F : Fr} {h : Hp} {xs : Array Value} {K : Next → Hp → Prop} : dwp Try.prog F (callFunc 253 xs) h K = K (.enter 253 xs) h := dwp_callFunc (by unfold entB; rw [Try.func253]; rfl)
theorem re253 {F : Fr} {S : Hp} {xs : Array Value} : rval Try.prog F (callFunc 253 xs) S = some (.enter 253 xs) := rval_callFunc (by unfold entB; rw [Try.func253]; rfl)
theorem ni253 : Try.prog.inits.idxOf? 253 = none := by kernel_rfl
theorem en265 {F : Fr} {h : Hp} {xs : Array Value} {K : Next → Hp → Prop} : dwp Try.prog F (callFunc 265 xs) h K = K (.enter 265 xs) h := dwp_callFunc (by unfold entB; rw [Try.func265]; rfl)
theorem re265 {F : Fr} {S : Hp} {xs : Array Value} : rval Try.prog F (callFunc 265 xs) S = some (.enter 265 xs) := rval_callFunc (by unfold entB; rw [Try.func265]; rfl)
theorem ni265 : Try.prog.inits.idxOf? 265 = none := by kernel_rfl
theorem dry_eql4 {a b : Bool} : dry Try.prog (binOp .eql 4 (.bool a) (.bool b)) = some (.bool (a == b)) := dry_eqlB Try.underlying4
theorem dwp_eql4 {F : Fr} {h : Hp} {K : Value → Hp → Prop} {a b : Bool} : dwp Try.prog F (binOp .eql 4 (.bool a) (.bool b)) h K = K (.bool (a == b)) h := dry_dwp _ dry_eql4
theorem rval_eql4 {F : Fr} {S : Hp} {a b : Bool} : rval Try.prog F (binOp .eql 4 (.bool a) (.bool b)) S = some (.bool (a == b)) := dry_rval _ dry_eql4
theorem dry_eql27 {a0 b0 a1 b1 : Int} : dry Try.prog (binOp .eql 27 (.agg #[.int .i64 a0, .int .i64 a1]) (.agg #[.int .i64 b0, .int .i64 b1])) = some (.bool ((a0 == b0) && ((a1 == b1) && true))) := dry_eqlS Try.underlying27 (by kernel_rfl) (eqF_int rfl Try.isAgg3 Try.underlying3 rfl rfl (eqF_int rfl Try.isAgg3 Try.underlying3 rfl rfl eqF_nil))
theorem dwp_eql27 {F : Fr} {h : Hp} {K : Value → Hp → Prop} {a0 b0 a1 b1 : Int} : dwp Try.prog F (binOp .eql 27 (.agg #[.int .i64 a0, .int .i64 a1]) (.agg #[.int .i64 b0, .int .i64 b1])) h K = K (.bool ((a0 == b0) && ((a1 == b1) && true))) h := dry_dwp _ dry_eql27
theorem rval_eql27 {F : Fr} {S : Hp} {a0 b0 a1 b1 : Int} : rval Try.prog F (binOp .eql 27 (.agg #[.int .i64 a0, .int .i64 a1]) (.agg #[.int .i64 b0, .int .i64 b1])) S = some (.bool ((a0 == b0) && ((a1 == b1) && true))) := dry_rval _ dry_eql27
theorem eg27 : Try.prog.eqGuardType Try.prog.depth 27 = false := by kernel_rfl
theorem dry_eql56 {a0 b0 a1 b1 : Int} : dry Try.prog (binOp .eql 56 (.agg #[.int .i64 a0, .int .i64 a1]) (.agg #[.int .i64 b0, .int .i64 b1])) = some (.bool ((a0 == b0) && ((a1 == b1) && true))) := dry_eqlS Try.underlying56 (by kernel_rfl) (eqF_int rfl Try.isAgg3 Try.underlying3 rfl rfl (eqF_int rfl Try.isAgg3 Try.underlying3 rfl rfl eqF_nil))
theorem dwp_eql56 {F : Fr} {h : Hp} {K : Value → Hp → Prop} {a0 b0 a1 b1 : Int} : dwp Try.prog F (binOp .eql 56 (.agg #[.int .i64 a0, .int .i64 a1]) (.agg #[.int .i64 b0, .int .i64 b1])) h K = K (.bool ((a0 == b0) && ((a1 == b1) && true))) h := dry_dwp _ dry_eql56
theorem rval_eql56 {F : Fr} {S : Hp} {a0 b0 a1 b1 : Int} : rval Try.prog F (binOp .eql 56 (.agg #[.int .i64 a0, .int .i64 a1]) (.agg #[.int .i64 b0, .int .i64 b1])) S = some (.bool ((a0 == b0) && ((a1 == b1) && true))) := dry_rval _ dry_eql56
theorem eg56 : Try.prog.eqGuardType Try.prog.depth 56 = false := by kernel_rfl
theorem dry_eql157 {a0 b0 a1 b1 a2 b2 : Int} : dry Try.prog (binOp .eql 157 (.agg #[.int .i64 a0, .int .i64 a1, .int .i64 a2]) (.agg #[.int .i64 b0, .int .i64 b1, .int .i64 b2])) = some (.bool ((a0 == b0) && ((a1 == b1) && ((a2 == b2) && true)))) := dry_eqlS Try.underlying157 (by kernel_rfl) (eqF_int rfl Try.isAgg155 Try.underlying155 rfl rfl (eqF_int rfl Try.isAgg3 Try.underlying3 rfl rfl (eqF_int rfl Try.isAgg3 Try.underlying3 rfl rfl eqF_nil)))
theorem dwp_eql157 {F : Fr} {h : Hp} {K : Value → Hp → Prop} {a0 b0 a1 b1 a2 b2 : Int} : dwp Try.prog F (binOp .eql 157 (.agg #[.int .i64 a0, .int .i64 a1, .int .i64 a2]) (.agg #[.int .i64 b0, .int .i64 b1, .int .i64 b2])) h K = K (.bool ((a0 == b0) && ((a1 == b1) && ((a2 == b2) && true)))) h := dry_dwp _ dry_eql157
theorem rval_eql157 {F : Fr} {S : Hp} {a0 b0 a1 b1 a2 b2 : Int} : rval Try.prog F (binOp .eql 157 (.agg #[.int .i64 a0, .int .i64 a1, .int .i64 a2]) (.agg #[.int .i64 b0, .int .i64 b1, .int .i64 b2])) S = some (.bool ((a0 == b0) && ((a1 == b1) && ((a2 == b2) && true)))) := dry_rval _ dry_eql157
theorem eg157 : Try.prog.eqGuardType Try.prog.depth 157 = false := by kernel_rfl
theorem dry_neq4 {a b : Bool} : dry Try.prog (binOp .neq 4 (.bool a) (.bool b)) = some (.bool (!(a == b))) := dry_neqB Try.underlying4
theorem dwp_neq4 {F : Fr} {h : Hp} {K : Value → Hp → Prop} {a b : Bool} : dwp Try.prog F (binOp .neq 4 (.bool a) (.bool b)) h K = K (.bool (!(a == b))) h := dry_dwp _ dry_neq4
theorem rval_neq4 {F : Fr} {S : Hp} {a b : Bool} : rval Try.prog F (binOp .neq 4 (.bool a) (.bool b)) S = some (.bool (!(a == b))) := dry_rval _ dry_neq4
theorem dry_neq27 {a0 b0 a1 b1 : Int} : dry Try.prog (binOp .neq 27 (.agg #[.int .i64 a0, .int .i64 a1]) (.agg #[.int .i64 b0, .int .i64 b1])) = some (.bool (!((a0 == b0) && ((a1 == b1) && true)))) := dry_neqS Try.underlying27 (by kernel_rfl) (eqF_int rfl Try.isAgg3 Try.underlying3 rfl rfl (eqF_int rfl Try.isAgg3 Try.underlying3 rfl rfl eqF_nil))
theorem dwp_neq27 {F : Fr} {h : Hp} {K : Value → Hp → Prop} {a0 b0 a1 b1 : Int} : dwp Try.prog F (binOp .neq 27 (.agg #[.int .i64 a0, .int .i64 a1]) (.agg #[.int .i64 b0, .int .i64 b1])) h K = K (.bool (!((a0 == b0) && ((a1 == b1) && true)))) h := dry_dwp _ dry_neq27
theorem rval_neq27 {F : Fr} {S : Hp} {a0 b0 a1 b1 : Int} : rval Try.prog F (binOp .neq 27 (.agg #[.int .i64 a0, .int .i64 a1]) (.agg #[.int .i64 b0, .int .i64 b1])) S = some (.bool (!((a0 == b0) && ((a1 == b1) && true)))) := dry_rval _ dry_neq27
theorem dry_neq157 {a0 b0 a1 b1 a2 b2 : Int} : dry Try.prog (binOp .neq 157 (.agg #[.int .i64 a0, .int .i64 a1, .int .i64 a2]) (.agg #[.int .i64 b0, .int .i64 b1, .int .i64 b2])) = some (.bool (!((a0 == b0) && ((a1 == b1) && ((a2 == b2) && true))))) := dry_neqS Try.underlying157 (by kernel_rfl) (eqF_int rfl Try.isAgg155 Try.underlying155 rfl rfl (eqF_int rfl Try.isAgg3 Try.underlying3 rfl rfl (eqF_int rfl Try.isAgg3 Try.underlying3 rfl rfl eqF_nil)))
theorem dwp_neq157 {F : Fr} {h : Hp} {K : Value → Hp → Prop} {a0 b0 a1 b1 a2 b2 : Int} : dwp Try.prog F (binOp .neq 157 (.agg #[.int .i64 a0, .int .i64 a1, .int .i64 a2]) (.agg #[.int .i64 b0, .int .i64 b1, .int .i64 b2])) h K = K (.bool (!((a0 == b0) && ((a1 == b1) && ((a2 == b2) && true))))) h := dry_dwp _ dry_neq157
theorem rval_neq157 {F : Fr} {S : Hp} {a0 b0 a1 b1 a2 b2 : Int} : rval Try.prog F (binOp .neq 157 (.agg #[.int .i64 a0, .int .i64 a1, .int .i64 a2]) (.agg #[.int .i64 b0, .int .i64 b1, .int .i64 b2])) S = some (.bool (!((a0 == b0) && ((a1 == b1) && ((a2 == b2) && true))))) := dry_rval _ dry_neq157
theorem dwp_conv5_3 {F : Fr} {h : Hp} {K : Value → Hp → Prop} {k : IntKind} {n : Int} : dwp Try.prog F (convert 5 3 (.int k n)) h K = K (.int .i64 (IntKind.i64.wrap n)) h := dry_dwp _ (dry_convI Try.underlying5 Try.underlying3)
theorem rval_conv5_3 {F : Fr} {S : Hp} {k : IntKind} {n : Int} : rval Try.prog F (convert 5 3 (.int k n)) S = some (.int .i64 (IntKind.i64.wrap n)) := dry_rval _ (dry_convI Try.underlying5 Try.underlying3)
theorem dwp_conv52_3 {F : Fr} {h : Hp} {K : Value → Hp → Prop} {k : IntKind} {n : Int} : dwp Try.prog F (convert 52 3 (.int k n)) h K = K (.int .i64 (IntKind.i64.wrap n)) h := dry_dwp _ (dry_convI Try.underlying52 Try.underlying3)
theorem rval_conv52_3 {F : Fr} {S : Hp} {k : IntKind} {n : Int} : rval Try.prog F (convert 52 3 (.int k n)) S = some (.int .i64 (IntKind.i64.wrap n)) := dry_rval _ (dry_convI Try.underlying52 Try.underlying3)
theorem dwp_conv63_3 {F : Fr} {h : Hp} {K : Value → Hp → Prop} {k : IntKind} {n : Int} : dwp Try.prog F (convert 63 3 (.int k n)) h K = K (.int .i64 (IntKind.i64.wrap n)) h := dry_dwp _ (dry_convI Try.underlying63 Try.underlying3)
theorem rval_conv63_3 {F : Fr} {S : Hp} {k : IntKind} {n : Int} : rval Try.prog F (convert 63 3 (.int k n)) S = some (.int .i64 (IntKind.i64.wrap n)) := dry_rval _ (dry_convI Try.underlying63 Try.underlying3)
theorem mo : Try.prog.follows .mixedOrders = true := by kernel_rfl
end Go.Proofs.Ytofplebnlaaceaa
