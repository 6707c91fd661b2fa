/-
  The types of the program, as the walk over a part of memory asks them. Conditions: none. Printed by facts.py (own program).
-/
import Derived.Test.YtdhdfdaclbfkiaaProg
import Derived.Test.YtdhdfdaclbfkiaaS8
import Derived.Test.YtdhdfdaclbfkiaaFx0
namespace Go.Proofs.Ytdhdfdaclbfkiaa
open Go Go.SL Go.RowKit
set_option linter.unusedVariables false
theorem rz135 {F : Fr} {S : Hp} : rval Try.prog F (zeroValue 135) S = some (Go.Value.nilFunc) := rval_zero Try.zeroValue135
theorem un136 {F : Fr} {h : Hp} {K : TypeDesc → Hp → Prop} : dwp Try.prog F (underlying 136) h K = K (Go.TypeDesc.func #[30, 178] #[35] true) h := by rw [dwp_underlying, Try.underlying136]; rfl
theorem ru136 {F : Fr} {S : Hp} : rval Try.prog F (underlying 136) S = some (Go.TypeDesc.func #[30, 178] #[35] true) := rval_un Try.underlying136
theorem sz136 {F : Fr} {h : Hp} {K : Nat → Hp → Prop} : dwp Try.prog F (sizeOf 136) h K = K 1 h := dwp_size_of Try.sizeOf136
theorem rs136 {F : Fr} {S : Hp} : rval Try.prog F (sizeOf 136) S = some 1 := rval_size Try.sizeOf136
theorem ag136 {F : Fr} {h : Hp} {K : Bool → Hp → Prop} : dwp Try.prog F (isAgg 136) h K = K false h := dwp_agg_of Try.isAgg136
theorem ra136 {F : Fr} {S : Hp} : rval Try.prog F (isAgg 136) S = some false := rval_agg Try.isAgg136
theorem ze136 {F : Fr} {h : Hp} {K : Value → Hp → Prop} : dwp Try.prog F (zeroValue 136) h K = K Go.Value.nilFunc h := dwp_zero_of Try.zeroValue136
theorem rz136 {F : Fr} {S : Hp} : rval Try.prog F (zeroValue 136) S = some (Go.Value.nilFunc) := rval_zero Try.zeroValue136
theorem un137 {F : Fr} {h : Hp} {K : TypeDesc → Hp → Prop} : dwp Try.prog F (underlying 137) h K = K (Go.TypeDesc.tuple #[30, 4]) h := by rw [dwp_underlying, Try.underlying137]; rfl
theorem ru137 {F : Fr} {S : Hp} : rval Try.prog F (underlying 137) S = some (Go.TypeDesc.tuple #[30, 4]) := rval_un Try.underlying137
theorem sz137 {F : Fr} {h : Hp} {K : Nat → Hp → Prop} : dwp Try.prog F (sizeOf 137) h K = K 1 h := dwp_size_of Try.sizeOf137
theorem rs137 {F : Fr} {S : Hp} : rval Try.prog F (sizeOf 137) S = some 1 := rval_size Try.sizeOf137
theorem ag137 {F : Fr} {h : Hp} {K : Bool → Hp → Prop} : dwp Try.prog F (isAgg 137) h K = K false h := dwp_agg_of Try.isAgg137
theorem ra137 {F : Fr} {S : Hp} : rval Try.prog F (isAgg 137) S = some false := rval_agg Try.isAgg137
theorem ze137 {F : Fr} {h : Hp} {K : Value → Hp → Prop} : dwp Try.prog F (zeroValue 137) h K = K (Go.Value.tuple #[Go.Value.agg #[Go.Value.int Go.IntKind.i64 0, Go.Value.int Go.IntKind.i64 0], Go.Value.bool false]) h := dwp_zero_of Try.zeroValue137
theorem rz137 {F : Fr} {S : Hp} : rval Try.prog F (zeroValue 137) S = some (Go.Value.tuple #[Go.Value.agg #[Go.Value.int Go.IntKind.i64 0, Go.Value.int Go.IntKind.i64 0], Go.Value.bool false]) := rval_zero Try.zeroValue137
theorem un138 {F : Fr} {h : Hp} {K : TypeDesc → Hp → Prop} : dwp Try.prog F (underlying 138) h K = K (Go.TypeDesc.struct #[{ name := "heights", type := 130, offset := 0, embedded := true, tag := "", pkgPath := "acme/fit", byteOffset := 0 }, { name := "screw", type := 67, offset := 2, embedded := false, tag := "", pkgPath := "acme/fit", byteOffset := 16 }, { name := "nut", type := 67, offset := 5, embedded := false, tag := "", pkgPath := "acme/fit", byteOffset := 56 }]) h := by rw [dwp_underlying, Try.underlying138]; rfl
theorem ru138 {F : Fr} {S : Hp} : rval Try.prog F (underlying 138) S = some (Go.TypeDesc.struct #[{ name := "heights", type := 130, offset := 0, embedded := true, tag := "", pkgPath := "acme/fit", byteOffset := 0 }, { name := "screw", type := 67, offset := 2, embedded := false, tag := "", pkgPath := "acme/fit", byteOffset := 16 }, { name := "nut", type := 67, offset := 5, embedded := false, tag := "", pkgPath := "acme/fit", byteOffset := 56 }]) := rval_un Try.underlying138
theorem sz138 {F : Fr} {h : Hp} {K : Nat → Hp → Prop} : dwp Try.prog F (sizeOf 138) h K = K 8 h := dwp_size_of Try.sizeOf138
theorem rs138 {F : Fr} {S : Hp} : rval Try.prog F (sizeOf 138) S = some 8 := rval_size Try.sizeOf138
theorem ag138 {F : Fr} {h : Hp} {K : Bool → Hp → Prop} : dwp Try.prog F (isAgg 138) h K = K true h := dwp_agg_of Try.isAgg138
theorem ra138 {F : Fr} {S : Hp} : rval Try.prog F (isAgg 138) S = some true := rval_agg Try.isAgg138
theorem ze138 {F : Fr} {h : Hp} {K : Value → Hp → Prop} : dwp Try.prog F (zeroValue 138) h K = K (Go.Value.agg #[Go.Value.int Go.IntKind.i64 0, Go.Value.int Go.IntKind.i64 0, Go.Value.slice none 0 0, Go.Value.int Go.IntKind.i64 0, Go.Value.int Go.IntKind.i64 0, Go.Value.slice none 0 0, Go.Value.int Go.IntKind.i64 0, Go.Value.int Go.IntKind.i64 0]) h := dwp_zero_of Try.zeroValue138
theorem rz138 {F : Fr} {S : Hp} : rval Try.prog F (zeroValue 138) S = some (Go.Value.agg #[Go.Value.int Go.IntKind.i64 0, Go.Value.int Go.IntKind.i64 0, Go.Value.slice none 0 0, Go.Value.int Go.IntKind.i64 0, Go.Value.int Go.IntKind.i64 0, Go.Value.slice none 0 0, Go.Value.int Go.IntKind.i64 0, Go.Value.int Go.IntKind.i64 0]) := rval_zero Try.zeroValue138
theorem un139 {F : Fr} {h : Hp} {K : TypeDesc → Hp → Prop} : dwp Try.prog F (underlying 139) h K = K (Go.TypeDesc.struct #[{ name := "heights", type := 130, offset := 0, embedded := true, tag := "", pkgPath := "acme/fit", byteOffset := 0 }, { name := "screw", type := 67, offset := 2, embedded := false, tag := "", pkgPath := "acme/fit", byteOffset := 16 }, { name := "nut", type := 67, offset := 5, embedded := false, tag := "", pkgPath := "acme/fit", byteOffset := 56 }]) h := by rw [dwp_underlying, Try.underlying139]; rfl
theorem ru139 {F : Fr} {S : Hp} : rval Try.prog F (underlying 139) S = some (Go.TypeDesc.struct #[{ name := "heights", type := 130, offset := 0, embedded := true, tag := "", pkgPath := "acme/fit", byteOffset := 0 }, { name := "screw", type := 67, offset := 2, embedded := false, tag := "", pkgPath := "acme/fit", byteOffset := 16 }, { name := "nut", type := 67, offset := 5, embedded := false, tag := "", pkgPath := "acme/fit", byteOffset := 56 }]) := rval_un Try.underlying139
theorem sz139 {F : Fr} {h : Hp} {K : Nat → Hp → Prop} : dwp Try.prog F (sizeOf 139) h K = K 8 h := dwp_size_of Try.sizeOf139
theorem rs139 {F : Fr} {S : Hp} : rval Try.prog F (sizeOf 139) S = some 8 := rval_size Try.sizeOf139
theorem ag139 {F : Fr} {h : Hp} {K : Bool → Hp → Prop} : dwp Try.prog F (isAgg 139) h K = K true h := dwp_agg_of Try.isAgg139
theorem ra139 {F : Fr} {S : Hp} : rval Try.prog F (isAgg 139) S = some true := rval_agg Try.isAgg139
theorem ze139 {F : Fr} {h : Hp} {K : Value → Hp → Prop} : dwp Try.prog F (zeroValue 139) h K = K (Go.Value.agg #[Go.Value.int Go.IntKind.i64 0, Go.Value.int Go.IntKind.i64 0, Go.Value.slice none 0 0, Go.Value.int Go.IntKind.i64 0, Go.Value.int Go.IntKind.i64 0, Go.Value.slice none 0 0, Go.Value.int Go.IntKind.i64 0, Go.Value.int Go.IntKind.i64 0]) h := dwp_zero_of Try.zeroValue139
theorem rz139 {F : Fr} {S : Hp} : rval Try.prog F (zeroValue 139) S = some (Go.Value.agg #[Go.Value.int Go.IntKind.i64 0, Go.Value.int Go.IntKind.i64 0, Go.Value.slice none 0 0, Go.Value.int Go.IntKind.i64 0, Go.Value.int Go.IntKind.i64 0, Go.Value.slice none 0 0, Go.Value.int Go.IntKind.i64 0, Go.Value.int Go.IntKind.i64 0]) := rval_zero Try.zeroValue139
theorem un140 {F : Fr} {h : Hp} {K : TypeDesc → Hp → Prop} : dwp Try.prog F (underlying 140) h K = K (Go.TypeDesc.func #[65, 65] #[30, 4] false) h := by rw [dwp_underlying, Try.underlying140]; rfl
theorem ru140 {F : Fr} {S : Hp} : rval Try.prog F (underlying 140) S = some (Go.TypeDesc.func #[65, 65] #[30, 4] false) := rval_un Try.underlying140
theorem sz140 {F : Fr} {h : Hp} {K : Nat → Hp → Prop} : dwp Try.prog F (sizeOf 140) h K = K 1 h := dwp_size_of Try.sizeOf140
theorem rs140 {F : Fr} {S : Hp} : rval Try.prog F (sizeOf 140) S = some 1 := rval_size Try.sizeOf140
theorem ag140 {F : Fr} {h : Hp} {K : Bool → Hp → Prop} : dwp Try.prog F (isAgg 140) h K = K false h := dwp_agg_of Try.isAgg140
theorem ra140 {F : Fr} {S : Hp} : rval Try.prog F (isAgg 140) S = some false := rval_agg Try.isAgg140
theorem ze140 {F : Fr} {h : Hp} {K : Value → Hp → Prop} : dwp Try.prog F (zeroValue 140) h K = K Go.Value.nilFunc h := dwp_zero_of Try.zeroValue140
theorem rz140 {F : Fr} {S : Hp} : rval Try.prog F (zeroValue 140) S = some (Go.Value.nilFunc) := rval_zero Try.zeroValue140
theorem un141 {F : Fr} {h : Hp} {K : TypeDesc → Hp → Prop} : dwp Try.prog F (underlying 141) h K = K (Go.TypeDesc.struct #[{ name := "Span", type := 30, offset := 0, embedded := true, tag := "", pkgPath := "", byteOffset := 0 }]) h := by rw [dwp_underlying, Try.underlying141]; rfl
theorem ru141 {F : Fr} {S : Hp} : rval Try.prog F (underlying 141) S = some (Go.TypeDesc.struct #[{ name := "Span", type := 30, offset := 0, embedded := true, tag := "", pkgPath := "", byteOffset := 0 }]) := rval_un Try.underlying141
theorem sz141 {F : Fr} {h : Hp} {K : Nat → Hp → Prop} : dwp Try.prog F (sizeOf 141) h K = K 2 h := dwp_size_of Try.sizeOf141
theorem rs141 {F : Fr} {S : Hp} : rval Try.prog F (sizeOf 141) S = some 2 := rval_size Try.sizeOf141
theorem ag141 {F : Fr} {h : Hp} {K : Bool → Hp → Prop} : dwp Try.prog F (isAgg 141) h K = K true h := dwp_agg_of Try.isAgg141
theorem ra141 {F : Fr} {S : Hp} : rval Try.prog F (isAgg 141) S = some true := rval_agg Try.isAgg141
theorem ze141 {F : Fr} {h : Hp} {K : Value → Hp → Prop} : dwp Try.prog F (zeroValue 141) h K = K (Go.Value.agg #[Go.Value.int Go.IntKind.i64 0, Go.Value.int Go.IntKind.i64 0]) h := dwp_zero_of Try.zeroValue141
theorem rz141 {F : Fr} {S : Hp} : rval Try.prog F (zeroValue 141) S = some (Go.Value.agg #[Go.Value.int Go.IntKind.i64 0, Go.Value.int Go.IntKind.i64 0]) := rval_zero Try.zeroValue141
theorem un142 {F : Fr} {h : Hp} {K : TypeDesc → Hp → Prop} : dwp Try.prog F (underlying 142) h K = K (Go.TypeDesc.struct #[{ name := "ThreadForm", type := 56, offset := 0, embedded := true, tag := "", pkgPath := "", byteOffset := 0 }, { name := "size", type := 3, offset := 8, embedded := false, tag := "", pkgPath := "acme/swap", byteOffset := 64 }]) h := by rw [dwp_underlying, Try.underlying142]; rfl
theorem ru142 {F : Fr} {S : Hp} : rval Try.prog F (underlying 142) S = some (Go.TypeDesc.struct #[{ name := "ThreadForm", type := 56, offset := 0, embedded := true, tag := "", pkgPath := "", byteOffset := 0 }, { name := "size", type := 3, offset := 8, embedded := false, tag := "", pkgPath := "acme/swap", byteOffset := 64 }]) := rval_un Try.underlying142
theorem sz142 {F : Fr} {h : Hp} {K : Nat → Hp → Prop} : dwp Try.prog F (sizeOf 142) h K = K 9 h := dwp_size_of Try.sizeOf142
theorem rs142 {F : Fr} {S : Hp} : rval Try.prog F (sizeOf 142) S = some 9 := rval_size Try.sizeOf142
theorem ag142 {F : Fr} {h : Hp} {K : Bool → Hp → Prop} : dwp Try.prog F (isAgg 142) h K = K true h := dwp_agg_of Try.isAgg142
theorem ra142 {F : Fr} {S : Hp} : rval Try.prog F (isAgg 142) S = some true := rval_agg Try.isAgg142
theorem ze142 {F : Fr} {h : Hp} {K : Value → Hp → Prop} : dwp Try.prog F (zeroValue 142) h K = K (Go.Value.agg #[Go.Value.int Go.IntKind.i64 0, Go.Value.int Go.IntKind.i64 0, Go.Value.int Go.IntKind.i64 0, Go.Value.int Go.IntKind.i64 0, Go.Value.int Go.IntKind.i64 0, Go.Value.int Go.IntKind.i64 0, Go.Value.bool false, Go.Value.int Go.IntKind.i64 0, Go.Value.int Go.IntKind.i64 0]) h := dwp_zero_of Try.zeroValue142
theorem rz142 {F : Fr} {S : Hp} : rval Try.prog F (zeroValue 142) S = some (Go.Value.agg #[Go.Value.int Go.IntKind.i64 0, Go.Value.int Go.IntKind.i64 0, Go.Value.int Go.IntKind.i64 0, Go.Value.int Go.IntKind.i64 0, Go.Value.int Go.IntKind.i64 0, Go.Value.int Go.IntKind.i64 0, Go.Value.bool false, Go.Value.int Go.IntKind.i64 0, Go.Value.int Go.IntKind.i64 0]) := rval_zero Try.zeroValue142
theorem un143 {F : Fr} {h : Hp} {K : TypeDesc → Hp → Prop} : dwp Try.prog F (underlying 143) h K = K (Go.TypeDesc.struct #[{ name := "ThreadForm", type := 56, offset := 0, embedded := true, tag := "", pkgPath := "", byteOffset := 0 }, { name := "size", type := 3, offset := 8, embedded := false, tag := "", pkgPath := "acme/swap", byteOffset := 64 }]) h := by rw [dwp_underlying, Try.underlying143]; rfl
theorem ru143 {F : Fr} {S : Hp} : rval Try.prog F (underlying 143) S = some (Go.TypeDesc.struct #[{ name := "ThreadForm", type := 56, offset := 0, embedded := true, tag := "", pkgPath := "", byteOffset := 0 }, { name := "size", type := 3, offset := 8, embedded := false, tag := "", pkgPath := "acme/swap", byteOffset := 64 }]) := rval_un Try.underlying143
theorem sz143 {F : Fr} {h : Hp} {K : Nat → Hp → Prop} : dwp Try.prog F (sizeOf 143) h K = K 9 h := dwp_size_of Try.sizeOf143
theorem rs143 {F : Fr} {S : Hp} : rval Try.prog F (sizeOf 143) S = some 9 := rval_size Try.sizeOf143
theorem ag143 {F : Fr} {h : Hp} {K : Bool → Hp → Prop} : dwp Try.prog F (isAgg 143) h K = K true h := dwp_agg_of Try.isAgg143
theorem ra143 {F : Fr} {S : Hp} : rval Try.prog F (isAgg 143) S = some true := rval_agg Try.isAgg143
theorem ze143 {F : Fr} {h : Hp} {K : Value → Hp → Prop} : dwp Try.prog F (zeroValue 143) h K = K (Go.Value.agg #[Go.Value.int Go.IntKind.i64 0, Go.Value.int Go.IntKind.i64 0, Go.Value.int Go.IntKind.i64 0, Go.Value.int Go.IntKind.i64 0, Go.Value.int Go.IntKind.i64 0, Go.Value.int Go.IntKind.i64 0, Go.Value.bool false, Go.Value.int Go.IntKind.i64 0, Go.Value.int Go.IntKind.i64 0]) h := dwp_zero_of Try.zeroValue143
theorem rz143 {F : Fr} {S : Hp} : rval Try.prog F (zeroValue 143) S = some (Go.Value.agg #[Go.Value.int Go.IntKind.i64 0, Go.Value.int Go.IntKind.i64 0, Go.Value.int Go.IntKind.i64 0, Go.Value.int Go.IntKind.i64 0, Go.Value.int Go.IntKind.i64 0, Go.Value.int Go.IntKind.i64 0, Go.Value.bool false, Go.Value.int Go.IntKind.i64 0, Go.Value.int Go.IntKind.i64 0]) := rval_zero Try.zeroValue143
theorem un144 {F : Fr} {h : Hp} {K : TypeDesc → Hp → Prop} : dwp Try.prog F (underlying 144) h K = K (Go.TypeDesc.func #[143, 30] #[3] false) h := by rw [dwp_underlying, Try.underlying144]; rfl
theorem ru144 {F : Fr} {S : Hp} : rval Try.prog F (underlying 144) S = some (Go.TypeDesc.func #[143, 30] #[3] false) := rval_un Try.underlying144
theorem sz144 {F : Fr} {h : Hp} {K : Nat → Hp → Prop} : dwp Try.prog F (sizeOf 144) h K = K 1 h := dwp_size_of Try.sizeOf144
theorem rs144 {F : Fr} {S : Hp} : rval Try.prog F (sizeOf 144) S = some 1 := rval_size Try.sizeOf144
theorem ag144 {F : Fr} {h : Hp} {K : Bool → Hp → Prop} : dwp Try.prog F (isAgg 144) h K = K false h := dwp_agg_of Try.isAgg144
theorem ra144 {F : Fr} {S : Hp} : rval Try.prog F (isAgg 144) S = some false := rval_agg Try.isAgg144
theorem ze144 {F : Fr} {h : Hp} {K : Value → Hp → Prop} : dwp Try.prog F (zeroValue 144) h K = K Go.Value.nilFunc h := dwp_zero_of Try.zeroValue144
theorem rz144 {F : Fr} {S : Hp} : rval Try.prog F (zeroValue 144) S = some (Go.Value.nilFunc) := rval_zero Try.zeroValue144
theorem un145 {F : Fr} {h : Hp} {K : TypeDesc → Hp → Prop} : dwp Try.prog F (underlying 145) h K = K (Go.TypeDesc.func #[186] #[] false) h := by rw [dwp_underlying, Try.underlying145]; rfl
theorem ru145 {F : Fr} {S : Hp} : rval Try.prog F (underlying 145) S = some (Go.TypeDesc.func #[186] #[] false) := rval_un Try.underlying145
theorem sz145 {F : Fr} {h : Hp} {K : Nat → Hp → Prop} : dwp Try.prog F (sizeOf 145) h K = K 1 h := dwp_size_of Try.sizeOf145
theorem rs145 {F : Fr} {S : Hp} : rval Try.prog F (sizeOf 145) S = some 1 := rval_size Try.sizeOf145
theorem ag145 {F : Fr} {h : Hp} {K : Bool → Hp → Prop} : dwp Try.prog F (isAgg 145) h K = K false h := dwp_agg_of Try.isAgg145
theorem ra145 {F : Fr} {S : Hp} : rval Try.prog F (isAgg 145) S = some false := rval_agg Try.isAgg145
theorem ze145 {F : Fr} {h : Hp} {K : Value → Hp → Prop} : dwp Try.prog F (zeroValue 145) h K = K Go.Value.nilFunc h := dwp_zero_of Try.zeroValue145
theorem rz145 {F : Fr} {S : Hp} : rval Try.prog F (zeroValue 145) S = some (Go.Value.nilFunc) := rval_zero Try.zeroValue145
theorem un146 {F : Fr} {h : Hp} {K : TypeDesc → Hp → Prop} : dwp Try.prog F (underlying 146) h K = K (Go.TypeDesc.func #[3] #[56] false) h := by rw [dwp_underlying, Try.underlying146]; rfl
theorem ru146 {F : Fr} {S : Hp} : rval Try.prog F (underlying 146) S = some (Go.TypeDesc.func #[3] #[56] false) := rval_un Try.underlying146
theorem sz146 {F : Fr} {h : Hp} {K : Nat → Hp → Prop} : dwp Try.prog F (sizeOf 146) h K = K 1 h := dwp_size_of Try.sizeOf146
theorem rs146 {F : Fr} {S : Hp} : rval Try.prog F (sizeOf 146) S = some 1 := rval_size Try.sizeOf146
theorem ag146 {F : Fr} {h : Hp} {K : Bool → Hp → Prop} : dwp Try.prog F (isAgg 146) h K = K false h := dwp_agg_of Try.isAgg146
theorem ra146 {F : Fr} {S : Hp} : rval Try.prog F (isAgg 146) S = some false := rval_agg Try.isAgg146
theorem ze146 {F : Fr} {h : Hp} {K : Value → Hp → Prop} : dwp Try.prog F (zeroValue 146) h K = K Go.Value.nilFunc h := dwp_zero_of Try.zeroValue146
theorem rz146 {F : Fr} {S : Hp} : rval Try.prog F (zeroValue 146) S = some (Go.Value.nilFunc) := rval_zero Try.zeroValue146
theorem un147 {F : Fr} {h : Hp} {K : TypeDesc → Hp → Prop} : dwp Try.prog F (underlying 147) h K = K (Go.TypeDesc.struct #[{ name := "Country", type := 3, offset := 0, embedded := false, tag := "", pkgPath := "", byteOffset := 0 }, { name := "Years", type := 30, offset := 1, embedded := false, tag := "", pkgPath := "", byteOffset := 8 }, { name := "Form", type := 56, offset := 3, embedded := false, tag := "", pkgPath := "", byteOffset := 24 }, { name := "Screw", type := 30, offset := 11, embedded := false, tag := "", pkgPath := "", byteOffset := 88 }, { name := "Nut", type := 30, offset := 13, embedded := false, tag := "", pkgPath := "", byteOffset := 104 }]) h := by rw [dwp_underlying, Try.underlying147]; rfl
theorem ru147 {F : Fr} {S : Hp} : rval Try.prog F (underlying 147) S = some (Go.TypeDesc.struct #[{ name := "Country", type := 3, offset := 0, embedded := false, tag := "", pkgPath := "", byteOffset := 0 }, { name := "Years", type := 30, offset := 1, embedded := false, tag := "", pkgPath := "", byteOffset := 8 }, { name := "Form", type := 56, offset := 3, embedded := false, tag := "", pkgPath := "", byteOffset := 24 }, { name := "Screw", type := 30, offset := 11, embedded := false, tag := "", pkgPath := "", byteOffset := 88 }, { name := "Nut", type := 30, offset := 13, embedded := false, tag := "", pkgPath := "", byteOffset := 104 }]) := rval_un Try.underlying147
theorem sz147 {F : Fr} {h : Hp} {K : Nat → Hp → Prop} : dwp Try.prog F (sizeOf 147) h K = K 15 h := dwp_size_of Try.sizeOf147
theorem rs147 {F : Fr} {S : Hp} : rval Try.prog F (sizeOf 147) S = some 15 := rval_size Try.sizeOf147
theorem ag147 {F : Fr} {h : Hp} {K : Bool → Hp → Prop} : dwp Try.prog F (isAgg 147) h K = K true h := dwp_agg_of Try.isAgg147
theorem ra147 {F : Fr} {S : Hp} : rval Try.prog F (isAgg 147) S = some true := rval_agg Try.isAgg147
theorem ze147 {F : Fr} {h : Hp} {K : Value → Hp → Prop} : dwp Try.prog F (zeroValue 147) h K = K (Go.Value.agg #[Go.Value.int Go.IntKind.i64 0, Go.Value.int Go.IntKind.i64 0, Go.Value.int Go.IntKind.i64 0, Go.Value.int Go.IntKind.i64 0, Go.Value.int Go.IntKind.i64 0, Go.Value.int Go.IntKind.i64 0, Go.Value.int Go.IntKind.i64 0, Go.Value.int Go.IntKind.i64 0, Go.Value.int Go.IntKind.i64 0, Go.Value.bool false, Go.Value.int Go.IntKind.i64 0, Go.Value.int Go.IntKind.i64 0, Go.Value.int Go.IntKind.i64 0, Go.Value.int Go.IntKind.i64 0, Go.Value.int Go.IntKind.i64 0]) h := dwp_zero_of Try.zeroValue147
theorem rz147 {F : Fr} {S : Hp} : rval Try.prog F (zeroValue 147) S = some (Go.Value.agg #[Go.Value.int Go.IntKind.i64 0, Go.Value.int Go.IntKind.i64 0, Go.Value.int Go.IntKind.i64 0, Go.Value.int Go.IntKind.i64 0, Go.Value.int Go.IntKind.i64 0, Go.Value.int Go.IntKind.i64 0, Go.Value.int Go.IntKind.i64 0, Go.Value.int Go.IntKind.i64 0, Go.Value.int Go.IntKind.i64 0, Go.Value.bool false, Go.Value.int Go.IntKind.i64 0, Go.Value.int Go.IntKind.i64 0, Go.Value.int Go.IntKind.i64 0, Go.Value.int Go.IntKind.i64 0, Go.Value.int Go.IntKind.i64 0]) := rval_zero Try.zeroValue147
theorem un148 {F : Fr} {h : Hp} {K : TypeDesc → Hp → Prop} : dwp Try.prog F (underlying 148) h K = K (Go.TypeDesc.struct #[{ name := "Country", type := 3, offset := 0, embedded := false, tag := "", pkgPath := "", byteOffset := 0 }, { name := "Years", type := 30, offset := 1, embedded := false, tag := "", pkgPath := "", byteOffset := 8 }, { name := "Form", type := 56, offset := 3, embedded := false, tag := "", pkgPath := "", byteOffset := 24 }, { name := "Screw", type := 30, offset := 11, embedded := false, tag := "", pkgPath := "", byteOffset := 88 }, { name := "Nut", type := 30, offset := 13, embedded := false, tag := "", pkgPath := "", byteOffset := 104 }]) h := by rw [dwp_underlying, Try.underlying148]; rfl
theorem ru148 {F : Fr} {S : Hp} : rval Try.prog F (underlying 148) S = some (Go.TypeDesc.struct #[{ name := "Country", type := 3, offset := 0, embedded := false, tag := "", pkgPath := "", byteOffset := 0 }, { name := "Years", type := 30, offset := 1, embedded := false, tag := "", pkgPath := "", byteOffset := 8 }, { name := "Form", type := 56, offset := 3, embedded := false, tag := "", pkgPath := "", byteOffset := 24 }, { name := "Screw", type := 30, offset := 11, embedded := false, tag := "", pkgPath := "", byteOffset := 88 }, { name := "Nut", type := 30, offset := 13, embedded := false, tag := "", pkgPath := "", byteOffset := 104 }]) := rval_un Try.underlying148
theorem sz148 {F : Fr} {h : Hp} {K : Nat → Hp → Prop} : dwp Try.prog F (sizeOf 148) h K = K 15 h := dwp_size_of Try.sizeOf148
theorem rs148 {F : Fr} {S : Hp} : rval Try.prog F (sizeOf 148) S = some 15 := rval_size Try.sizeOf148
theorem ag148 {F : Fr} {h : Hp} {K : Bool → Hp → Prop} : dwp Try.prog F (isAgg 148) h K = K true h := dwp_agg_of Try.isAgg148
theorem ra148 {F : Fr} {S : Hp} : rval Try.prog F (isAgg 148) S = some true := rval_agg Try.isAgg148
theorem ze148 {F : Fr} {h : Hp} {K : Value → Hp → Prop} : dwp Try.prog F (zeroValue 148) h K = K (Go.Value.agg #[Go.Value.int Go.IntKind.i64 0, Go.Value.int Go.IntKind.i64 0, Go.Value.int Go.IntKind.i64 0, Go.Value.int Go.IntKind.i64 0, Go.Value.int Go.IntKind.i64 0, Go.Value.int Go.IntKind.i64 0, Go.Value.int Go.IntKind.i64 0, Go.Value.int Go.IntKind.i64 0, Go.Value.int Go.IntKind.i64 0, Go.Value.bool false, Go.Value.int Go.IntKind.i64 0, Go.Value.int Go.IntKind.i64 0, Go.Value.int Go.IntKind.i64 0, Go.Value.int Go.IntKind.i64 0, Go.Value.int Go.IntKind.i64 0]) h := dwp_zero_of Try.zeroValue148
theorem rz148 {F : Fr} {S : Hp} : rval Try.prog F (zeroValue 148) S = some (Go.Value.agg #[Go.Value.int Go.IntKind.i64 0, Go.Value.int Go.IntKind.i64 0, Go.Value.int Go.IntKind.i64 0, Go.Value.int Go.IntKind.i64 0, Go.Value.int Go.IntKind.i64 0, Go.Value.int Go.IntKind.i64 0, Go.Value.int Go.IntKind.i64 0, Go.Value.int Go.IntKind.i64 0, Go.Value.int Go.IntKind.i64 0, Go.Value.bool false, Go.Value.int Go.IntKind.i64 0, Go.Value.int Go.IntKind.i64 0, Go.Value.int Go.IntKind.i64 0, Go.Value.int Go.IntKind.i64 0, Go.Value.int Go.IntKind.i64 0]) := rval_zero Try.zeroValue148
theorem un149 {F : Fr} {h : Hp} {K : TypeDesc → Hp → Prop} : dwp Try.prog F (underlying 149) h K = K (Go.TypeDesc.tuple #[3, 3, 35]) h := by rw [dwp_underlying, Try.underlying149]; rfl
theorem ru149 {F : Fr} {S : Hp} : rval Try.prog F (underlying 149) S = some (Go.TypeDesc.tuple #[3, 3, 35]) := rval_un Try.underlying149
theorem sz149 {F : Fr} {h : Hp} {K : Nat → Hp → Prop} : dwp Try.prog F (sizeOf 149) h K = K 1 h := dwp_size_of Try.sizeOf149
theorem rs149 {F : Fr} {S : Hp} : rval Try.prog F (sizeOf 149) S = some 1 := rval_size Try.sizeOf149
theorem ag149 {F : Fr} {h : Hp} {K : Bool → Hp → Prop} : dwp Try.prog F (isAgg 149) h K = K false h := dwp_agg_of Try.isAgg149
theorem ra149 {F : Fr} {S : Hp} : rval Try.prog F (isAgg 149) S = some false := rval_agg Try.isAgg149
theorem ze149 {F : Fr} {h : Hp} {K : Value → Hp → Prop} : dwp Try.prog F (zeroValue 149) h K = K (Go.Value.tuple #[Go.Value.int Go.IntKind.i64 0, Go.Value.int Go.IntKind.i64 0, Go.Value.int Go.IntKind.i64 0]) h := dwp_zero_of Try.zeroValue149
theorem rz149 {F : Fr} {S : Hp} : rval Try.prog F (zeroValue 149) S = some (Go.Value.tuple #[Go.Value.int Go.IntKind.i64 0, Go.Value.int Go.IntKind.i64 0, Go.Value.int Go.IntKind.i64 0]) := rval_zero Try.zeroValue149
theorem un150 {F : Fr} {h : Hp} {K : TypeDesc → Hp → Prop} : dwp Try.prog F (underlying 150) h K = K (Go.TypeDesc.func #[148, 148, 30] #[3, 3, 35] false) h := by rw [dwp_underlying, Try.underlying150]; rfl
theorem ru150 {F : Fr} {S : Hp} : rval Try.prog F (underlying 150) S = some (Go.TypeDesc.func #[148, 148, 30] #[3, 3, 35] false) := rval_un Try.underlying150
theorem sz150 {F : Fr} {h : Hp} {K : Nat → Hp → Prop} : dwp Try.prog F (sizeOf 150) h K = K 1 h := dwp_size_of Try.sizeOf150
theorem rs150 {F : Fr} {S : Hp} : rval Try.prog F (sizeOf 150) S = some 1 := rval_size Try.sizeOf150
theorem ag150 {F : Fr} {h : Hp} {K : Bool → Hp → Prop} : dwp Try.prog F (isAgg 150) h K = K false h := dwp_agg_of Try.isAgg150
theorem ra150 {F : Fr} {S : Hp} : rval Try.prog F (isAgg 150) S = some false := rval_agg Try.isAgg150
theorem ze150 {F : Fr} {h : Hp} {K : Value → Hp → Prop} : dwp Try.prog F (zeroValue 150) h K = K Go.Value.nilFunc h := dwp_zero_of Try.zeroValue150
theorem rz150 {F : Fr} {S : Hp} : rval Try.prog F (zeroValue 150) S = some (Go.Value.nilFunc) := rval_zero Try.zeroValue150
theorem un151 {F : Fr} {h : Hp} {K : TypeDesc → Hp → Prop} : dwp Try.prog F (underlying 151) h K = K (Go.TypeDesc.func #[] #[32] false) h := by rw [dwp_underlying, Try.underlying151]; rfl
theorem ru151 {F : Fr} {S : Hp} : rval Try.prog F (underlying 151) S = some (Go.TypeDesc.func #[] #[32] false) := rval_un Try.underlying151
theorem sz151 {F : Fr} {h : Hp} {K : Nat → Hp → Prop} : dwp Try.prog F (sizeOf 151) h K = K 1 h := dwp_size_of Try.sizeOf151
theorem rs151 {F : Fr} {S : Hp} : rval Try.prog F (sizeOf 151) S = some 1 := rval_size Try.sizeOf151
theorem ag151 {F : Fr} {h : Hp} {K : Bool → Hp → Prop} : dwp Try.prog F (isAgg 151) h K = K false h := dwp_agg_of Try.isAgg151
theorem ra151 {F : Fr} {S : Hp} : rval Try.prog F (isAgg 151) S = some false := rval_agg Try.isAgg151
theorem ze151 {F : Fr} {h : Hp} {K : Value → Hp → Prop} : dwp Try.prog F (zeroValue 151) h K = K Go.Value.nilFunc h := dwp_zero_of Try.zeroValue151
theorem rz151 {F : Fr} {S : Hp} : rval Try.prog F (zeroValue 151) S = some (Go.Value.nilFunc) := rval_zero Try.zeroValue151
theorem un152 {F : Fr} {h : Hp} {K : TypeDesc → Hp → Prop} : dwp Try.prog F (underlying 152) h K = K (Go.TypeDesc.pointer 157) h := by rw [dwp_underlying, Try.underlying152]; rfl
theorem ru152 {F : Fr} {S : Hp} : rval Try.prog F (underlying 152) S = some (Go.TypeDesc.pointer 157) := rval_un Try.underlying152
theorem sz152 {F : Fr} {h : Hp} {K : Nat → Hp → Prop} : dwp Try.prog F (sizeOf 152) h K = K 1 h := dwp_size_of Try.sizeOf152
theorem rs152 {F : Fr} {S : Hp} : rval Try.prog F (sizeOf 152) S = some 1 := rval_size Try.sizeOf152
theorem ag152 {F : Fr} {h : Hp} {K : Bool → Hp → Prop} : dwp Try.prog F (isAgg 152) h K = K false h := dwp_agg_of Try.isAgg152
theorem ra152 {F : Fr} {S : Hp} : rval Try.prog F (isAgg 152) S = some false := rval_agg Try.isAgg152
theorem ze152 {F : Fr} {h : Hp} {K : Value → Hp → Prop} : dwp Try.prog F (zeroValue 152) h K = K (Go.Value.pointer none) h := dwp_zero_of Try.zeroValue152
theorem rz152 {F : Fr} {S : Hp} : rval Try.prog F (zeroValue 152) S = some (Go.Value.pointer none) := rval_zero Try.zeroValue152
theorem un153 {F : Fr} {h : Hp} {K : TypeDesc → Hp → Prop} : dwp Try.prog F (underlying 153) h K = K (Go.TypeDesc.tuple #[152, 35]) h := by rw [dwp_underlying, Try.underlying153]; rfl
theorem ru153 {F : Fr} {S : Hp} : rval Try.prog F (underlying 153) S = some (Go.TypeDesc.tuple #[152, 35]) := rval_un Try.underlying153
theorem sz153 {F : Fr} {h : Hp} {K : Nat → Hp → Prop} : dwp Try.prog F (sizeOf 153) h K = K 1 h := dwp_size_of Try.sizeOf153
theorem rs153 {F : Fr} {S : Hp} : rval Try.prog F (sizeOf 153) S = some 1 := rval_size Try.sizeOf153
theorem ag153 {F : Fr} {h : Hp} {K : Bool → Hp → Prop} : dwp Try.prog F (isAgg 153) h K = K false h := dwp_agg_of Try.isAgg153
theorem ra153 {F : Fr} {S : Hp} : rval Try.prog F (isAgg 153) S = some false := rval_agg Try.isAgg153
theorem ze153 {F : Fr} {h : Hp} {K : Value → Hp → Prop} : dwp Try.prog F (zeroValue 153) h K = K (Go.Value.tuple #[Go.Value.pointer none, Go.Value.int Go.IntKind.i64 0]) h := dwp_zero_of Try.zeroValue153
theorem rz153 {F : Fr} {S : Hp} : rval Try.prog F (zeroValue 153) S = some (Go.Value.tuple #[Go.Value.pointer none, Go.Value.int Go.IntKind.i64 0]) := rval_zero Try.zeroValue153
theorem un154 {F : Fr} {h : Hp} {K : TypeDesc → Hp → Prop} : dwp Try.prog F (underlying 154) h K = K (Go.TypeDesc.func #[82, 89] #[152, 35] false) h := by rw [dwp_underlying, Try.underlying154]; rfl
theorem ru154 {F : Fr} {S : Hp} : rval Try.prog F (underlying 154) S = some (Go.TypeDesc.func #[82, 89] #[152, 35] false) := rval_un Try.underlying154
theorem sz154 {F : Fr} {h : Hp} {K : Nat → Hp → Prop} : dwp Try.prog F (sizeOf 154) h K = K 1 h := dwp_size_of Try.sizeOf154
theorem rs154 {F : Fr} {S : Hp} : rval Try.prog F (sizeOf 154) S = some 1 := rval_size Try.sizeOf154
theorem ag154 {F : Fr} {h : Hp} {K : Bool → Hp → Prop} : dwp Try.prog F (isAgg 154) h K = K false h := dwp_agg_of Try.isAgg154
theorem ra154 {F : Fr} {S : Hp} : rval Try.prog F (isAgg 154) S = some false := rval_agg Try.isAgg154
theorem ze154 {F : Fr} {h : Hp} {K : Value → Hp → Prop} : dwp Try.prog F (zeroValue 154) h K = K Go.Value.nilFunc h := dwp_zero_of Try.zeroValue154
theorem rz154 {F : Fr} {S : Hp} : rval Try.prog F (zeroValue 154) S = some (Go.Value.nilFunc) := rval_zero Try.zeroValue154
theorem un155 {F : Fr} {h : Hp} {K : TypeDesc → Hp → Prop} : dwp Try.prog F (underlying 155) h K = K (Go.TypeDesc.slice 30) h := by rw [dwp_underlying, Try.underlying155]; rfl
theorem ru155 {F : Fr} {S : Hp} : rval Try.prog F (underlying 155) S = some (Go.TypeDesc.slice 30) := rval_un Try.underlying155
theorem ix155 {F : Fr} {h : Hp} {a : Addr} {n c : Nat} {k : IntKind} {i : Int} {K : Value → Hp → Prop} (h1 : 0 ≤ i) (h2 : i < (n : Int)) : dwp Try.prog F (Instr.indexAt 155 (.slice (some a) n c) (.int k i)) h K = K (.pointer (some (a.add (i.toNat * 2)))) h := dwp_ixS Try.underlying155 Try.sizeOf30 h1 h2
theorem rx155 {F : Fr} {S : Hp} {a : Addr} {n c : Nat} {k : IntKind} {i : Int} (h1 : 0 ≤ i) (h2 : i < (n : Int)) : rval Try.prog F (Instr.indexAt 155 (.slice (some a) n c) (.int k i)) S = some (.pointer (some (a.add (i.toNat * 2)))) := rval_ixS Try.underlying155 Try.sizeOf30 h1 h2
theorem sz155 {F : Fr} {h : Hp} {K : Nat → Hp → Prop} : dwp Try.prog F (sizeOf 155) h K = K 1 h := dwp_size_of Try.sizeOf155
theorem rs155 {F : Fr} {S : Hp} : rval Try.prog F (sizeOf 155) S = some 1 := rval_size Try.sizeOf155
theorem ag155 {F : Fr} {h : Hp} {K : Bool → Hp → Prop} : dwp Try.prog F (isAgg 155) h K = K false h := dwp_agg_of Try.isAgg155
theorem ra155 {F : Fr} {S : Hp} : rval Try.prog F (isAgg 155) S = some false := rval_agg Try.isAgg155
theorem ze155 {F : Fr} {h : Hp} {K : Value → Hp → Prop} : dwp Try.prog F (zeroValue 155) h K = K (Go.Value.slice none 0 0) h := dwp_zero_of Try.zeroValue155
theorem rz155 {F : Fr} {S : Hp} : rval Try.prog F (zeroValue 155) S = some (Go.Value.slice none 0 0) := rval_zero Try.zeroValue155
theorem un156 {F : Fr} {h : Hp} {K : TypeDesc → Hp → Prop} : dwp Try.prog F (underlying 156) h K = K (Go.TypeDesc.struct #[{ name := "FlangeRules", type := 82, offset := 0, embedded := true, tag := "", pkgPath := "", byteOffset := 0 }, { name := "forces", type := 155, offset := 16, embedded := false, tag := "", pkgPath := "acme/flange", byteOffset := 144 }, { name := "lost", type := 155, offset := 17, embedded := false, tag := "", pkgPath := "acme/flange", byteOffset := 168 }, { name := "most", type := 3, offset := 18, embedded := false, tag := "", pkgPath := "acme/flange", byteOffset := 192 }]) h := by rw [dwp_underlying, Try.underlying156]; rfl
theorem ru156 {F : Fr} {S : Hp} : rval Try.prog F (underlying 156) S = some (Go.TypeDesc.struct #[{ name := "FlangeRules", type := 82, offset := 0, embedded := true, tag := "", pkgPath := "", byteOffset := 0 }, { name := "forces", type := 155, offset := 16, embedded := false, tag := "", pkgPath := "acme/flange", byteOffset := 144 }, { name := "lost", type := 155, offset := 17, embedded := false, tag := "", pkgPath := "acme/flange", byteOffset := 168 }, { name := "most", type := 3, offset := 18, embedded := false, tag := "", pkgPath := "acme/flange", byteOffset := 192 }]) := rval_un Try.underlying156
theorem sz156 {F : Fr} {h : Hp} {K : Nat → Hp → Prop} : dwp Try.prog F (sizeOf 156) h K = K 19 h := dwp_size_of Try.sizeOf156
theorem rs156 {F : Fr} {S : Hp} : rval Try.prog F (sizeOf 156) S = some 19 := rval_size Try.sizeOf156
theorem ag156 {F : Fr} {h : Hp} {K : Bool → Hp → Prop} : dwp Try.prog F (isAgg 156) h K = K true h := dwp_agg_of Try.isAgg156
theorem ra156 {F : Fr} {S : Hp} : rval Try.prog F (isAgg 156) S = some true := rval_agg Try.isAgg156
theorem ze156 {F : Fr} {h : Hp} {K : Value → Hp → Prop} : dwp Try.prog F (zeroValue 156) h K = K (Go.Value.agg #[Go.Value.int Go.IntKind.i64 0, Go.Value.int Go.IntKind.i64 0, Go.Value.int Go.IntKind.i64 0, Go.Value.int Go.IntKind.i64 0, Go.Value.int Go.IntKind.i64 0, Go.Value.int Go.IntKind.i64 0, Go.Value.int Go.IntKind.i64 0, Go.Value.int Go.IntKind.i64 0, Go.Value.int Go.IntKind.i64 0, Go.Value.int Go.IntKind.i64 0, Go.Value.int Go.IntKind.i64 0, Go.Value.int Go.IntKind.i64 0, Go.Value.int Go.IntKind.i64 0, Go.Value.int Go.IntKind.i64 0, Go.Value.slice none 0 0, Go.Value.int Go.IntKind.i64 0, Go.Value.slice none 0 0, Go.Value.slice none 0 0, Go.Value.int Go.IntKind.i64 0]) h := dwp_zero_of Try.zeroValue156
theorem rz156 {F : Fr} {S : Hp} : rval Try.prog F (zeroValue 156) S = some (Go.Value.agg #[Go.Value.int Go.IntKind.i64 0, Go.Value.int Go.IntKind.i64 0, Go.Value.int Go.IntKind.i64 0, Go.Value.int Go.IntKind.i64 0, Go.Value.int Go.IntKind.i64 0, Go.Value.int Go.IntKind.i64 0, Go.Value.int Go.IntKind.i64 0, Go.Value.int Go.IntKind.i64 0, Go.Value.int Go.IntKind.i64 0, Go.Value.int Go.IntKind.i64 0, Go.Value.int Go.IntKind.i64 0, Go.Value.int Go.IntKind.i64 0, Go.Value.int Go.IntKind.i64 0, Go.Value.int Go.IntKind.i64 0, Go.Value.slice none 0 0, Go.Value.int Go.IntKind.i64 0, Go.Value.slice none 0 0, Go.Value.slice none 0 0, Go.Value.int Go.IntKind.i64 0]) := rval_zero Try.zeroValue156
theorem un157 {F : Fr} {h : Hp} {K : TypeDesc → Hp → Prop} : dwp Try.prog F (underlying 157) h K = K (Go.TypeDesc.struct #[{ name := "FlangeRules", type := 82, offset := 0, embedded := true, tag := "", pkgPath := "", byteOffset := 0 }, { name := "forces", type := 155, offset := 16, embedded := false, tag := "", pkgPath := "acme/flange", byteOffset := 144 }, { name := "lost", type := 155, offset := 17, embedded := false, tag := "", pkgPath := "acme/flange", byteOffset := 168 }, { name := "most", type := 3, offset := 18, embedded := false, tag := "", pkgPath := "acme/flange", byteOffset := 192 }]) h := by rw [dwp_underlying, Try.underlying157]; rfl
theorem ru157 {F : Fr} {S : Hp} : rval Try.prog F (underlying 157) S = some (Go.TypeDesc.struct #[{ name := "FlangeRules", type := 82, offset := 0, embedded := true, tag := "", pkgPath := "", byteOffset := 0 }, { name := "forces", type := 155, offset := 16, embedded := false, tag := "", pkgPath := "acme/flange", byteOffset := 144 }, { name := "lost", type := 155, offset := 17, embedded := false, tag := "", pkgPath := "acme/flange", byteOffset := 168 }, { name := "most", type := 3, offset := 18, embedded := false, tag := "", pkgPath := "acme/flange", byteOffset := 192 }]) := rval_un Try.underlying157
theorem sz157 {F : Fr} {h : Hp} {K : Nat → Hp → Prop} : dwp Try.prog F (sizeOf 157) h K = K 19 h := dwp_size_of Try.sizeOf157
theorem rs157 {F : Fr} {S : Hp} : rval Try.prog F (sizeOf 157) S = some 19 := rval_size Try.sizeOf157
theorem ag157 {F : Fr} {h : Hp} {K : Bool → Hp → Prop} : dwp Try.prog F (isAgg 157) h K = K true h := dwp_agg_of Try.isAgg157
theorem ra157 {F : Fr} {S : Hp} : rval Try.prog F (isAgg 157) S = some true := rval_agg Try.isAgg157
theorem ze157 {F : Fr} {h : Hp} {K : Value → Hp → Prop} : dwp Try.prog F (zeroValue 157) h K = K (Go.Value.agg #[Go.Value.int Go.IntKind.i64 0, Go.Value.int Go.IntKind.i64 0, Go.Value.int Go.IntKind.i64 0, Go.Value.int Go.IntKind.i64 0, Go.Value.int Go.IntKind.i64 0, Go.Value.int Go.IntKind.i64 0, Go.Value.int Go.IntKind.i64 0, Go.Value.int Go.IntKind.i64 0, Go.Value.int Go.IntKind.i64 0, Go.Value.int Go.IntKind.i64 0, Go.Value.int Go.IntKind.i64 0, Go.Value.int Go.IntKind.i64 0, Go.Value.int Go.IntKind.i64 0, Go.Value.int Go.IntKind.i64 0, Go.Value.slice none 0 0, Go.Value.int Go.IntKind.i64 0, Go.Value.slice none 0 0, Go.Value.slice none 0 0, Go.Value.int Go.IntKind.i64 0]) h := dwp_zero_of Try.zeroValue157
theorem rz157 {F : Fr} {S : Hp} : rval Try.prog F (zeroValue 157) S = some (Go.Value.agg #[Go.Value.int Go.IntKind.i64 0, Go.Value.int Go.IntKind.i64 0, Go.Value.int Go.IntKind.i64 0, Go.Value.int Go.IntKind.i64 0, Go.Value.int Go.IntKind.i64 0, Go.Value.int Go.IntKind.i64 0, Go.Value.int Go.IntKind.i64 0, Go.Value.int Go.IntKind.i64 0, Go.Value.int Go.IntKind.i64 0, Go.Value.int Go.IntKind.i64 0, Go.Value.int Go.IntKind.i64 0, Go.Value.int Go.IntKind.i64 0, Go.Value.int Go.IntKind.i64 0, Go.Value.int Go.IntKind.i64 0, Go.Value.slice none 0 0, Go.Value.int Go.IntKind.i64 0, Go.Value.slice none 0 0, Go.Value.slice none 0 0, Go.Value.int Go.IntKind.i64 0]) := rval_zero Try.zeroValue157
theorem un158 {F : Fr} {h : Hp} {K : TypeDesc → Hp → Prop} : dwp Try.prog F (underlying 158) h K = K (Go.TypeDesc.struct #[{ name := "Bolt", type := 3, offset := 0, embedded := false, tag := "", pkgPath := "", byteOffset := 0 }, { name := "Torque", type := 3, offset := 1, embedded := false, tag := "", pkgPath := "", byteOffset := 8 }]) h := by rw [dwp_underlying, Try.underlying158]; rfl
theorem ru158 {F : Fr} {S : Hp} : rval Try.prog F (underlying 158) S = some (Go.TypeDesc.struct #[{ name := "Bolt", type := 3, offset := 0, embedded := false, tag := "", pkgPath := "", byteOffset := 0 }, { name := "Torque", type := 3, offset := 1, embedded := false, tag := "", pkgPath := "", byteOffset := 8 }]) := rval_un Try.underlying158
theorem sz158 {F : Fr} {h : Hp} {K : Nat → Hp → Prop} : dwp Try.prog F (sizeOf 158) h K = K 2 h := dwp_size_of Try.sizeOf158
theorem rs158 {F : Fr} {S : Hp} : rval Try.prog F (sizeOf 158) S = some 2 := rval_size Try.sizeOf158
theorem ag158 {F : Fr} {h : Hp} {K : Bool → Hp → Prop} : dwp Try.prog F (isAgg 158) h K = K true h := dwp_agg_of Try.isAgg158
theorem ra158 {F : Fr} {S : Hp} : rval Try.prog F (isAgg 158) S = some true := rval_agg Try.isAgg158
theorem ze158 {F : Fr} {h : Hp} {K : Value → Hp → Prop} : dwp Try.prog F (zeroValue 158) h K = K (Go.Value.agg #[Go.Value.int Go.IntKind.i64 0, Go.Value.int Go.IntKind.i64 0]) h := dwp_zero_of Try.zeroValue158
theorem rz158 {F : Fr} {S : Hp} : rval Try.prog F (zeroValue 158) S = some (Go.Value.agg #[Go.Value.int Go.IntKind.i64 0, Go.Value.int Go.IntKind.i64 0]) := rval_zero Try.zeroValue158
theorem un159 {F : Fr} {h : Hp} {K : TypeDesc → Hp → Prop} : dwp Try.prog F (underlying 159) h K = K (Go.TypeDesc.struct #[{ name := "Bolt", type := 3, offset := 0, embedded := false, tag := "", pkgPath := "", byteOffset := 0 }, { name := "Torque", type := 3, offset := 1, embedded := false, tag := "", pkgPath := "", byteOffset := 8 }]) h := by rw [dwp_underlying, Try.underlying159]; rfl
theorem ru159 {F : Fr} {S : Hp} : rval Try.prog F (underlying 159) S = some (Go.TypeDesc.struct #[{ name := "Bolt", type := 3, offset := 0, embedded := false, tag := "", pkgPath := "", byteOffset := 0 }, { name := "Torque", type := 3, offset := 1, embedded := false, tag := "", pkgPath := "", byteOffset := 8 }]) := rval_un Try.underlying159
theorem sz159 {F : Fr} {h : Hp} {K : Nat → Hp → Prop} : dwp Try.prog F (sizeOf 159) h K = K 2 h := dwp_size_of Try.sizeOf159
theorem rs159 {F : Fr} {S : Hp} : rval Try.prog F (sizeOf 159) S = some 2 := rval_size Try.sizeOf159
theorem ag159 {F : Fr} {h : Hp} {K : Bool → Hp → Prop} : dwp Try.prog F (isAgg 159) h K = K true h := dwp_agg_of Try.isAgg159
theorem ra159 {F : Fr} {S : Hp} : rval Try.prog F (isAgg 159) S = some true := rval_agg Try.isAgg159
theorem ze159 {F : Fr} {h : Hp} {K : Value → Hp → Prop} : dwp Try.prog F (zeroValue 159) h K = K (Go.Value.agg #[Go.Value.int Go.IntKind.i64 0, Go.Value.int Go.IntKind.i64 0]) h := dwp_zero_of Try.zeroValue159
theorem rz159 {F : Fr} {S : Hp} : rval Try.prog F (zeroValue 159) S = some (Go.Value.agg #[Go.Value.int Go.IntKind.i64 0, Go.Value.int Go.IntKind.i64 0]) := rval_zero Try.zeroValue159
theorem un160 {F : Fr} {h : Hp} {K : TypeDesc → Hp → Prop} : dwp Try.prog F (underlying 160) h K = K (Go.TypeDesc.func #[80] #[4] true) h := by rw [dwp_underlying, Try.underlying160]; rfl
theorem ru160 {F : Fr} {S : Hp} : rval Try.prog F (underlying 160) S = some (Go.TypeDesc.func #[80] #[4] true) := rval_un Try.underlying160
theorem sz160 {F : Fr} {h : Hp} {K : Nat → Hp → Prop} : dwp Try.prog F (sizeOf 160) h K = K 1 h := dwp_size_of Try.sizeOf160
theorem rs160 {F : Fr} {S : Hp} : rval Try.prog F (sizeOf 160) S = some 1 := rval_size Try.sizeOf160
theorem ag160 {F : Fr} {h : Hp} {K : Bool → Hp → Prop} : dwp Try.prog F (isAgg 160) h K = K false h := dwp_agg_of Try.isAgg160
theorem ra160 {F : Fr} {S : Hp} : rval Try.prog F (isAgg 160) S = some false := rval_agg Try.isAgg160
theorem ze160 {F : Fr} {h : Hp} {K : Value → Hp → Prop} : dwp Try.prog F (zeroValue 160) h K = K Go.Value.nilFunc h := dwp_zero_of Try.zeroValue160
theorem rz160 {F : Fr} {S : Hp} : rval Try.prog F (zeroValue 160) S = some (Go.Value.nilFunc) := rval_zero Try.zeroValue160
theorem un161 {F : Fr} {h : Hp} {K : TypeDesc → Hp → Prop} : dwp Try.prog F (underlying 161) h K = K (Go.TypeDesc.struct #[{ name := "ZoneTable", type := 99, offset := 0, embedded := true, tag := "", pkgPath := "", byteOffset := 0 }]) h := by rw [dwp_underlying, Try.underlying161]; rfl
theorem ru161 {F : Fr} {S : Hp} : rval Try.prog F (underlying 161) S = some (Go.TypeDesc.struct #[{ name := "ZoneTable", type := 99, offset := 0, embedded := true, tag := "", pkgPath := "", byteOffset := 0 }]) := rval_un Try.underlying161
theorem sz161 {F : Fr} {h : Hp} {K : Nat → Hp → Prop} : dwp Try.prog F (sizeOf 161) h K = K 3 h := dwp_size_of Try.sizeOf161
theorem rs161 {F : Fr} {S : Hp} : rval Try.prog F (sizeOf 161) S = some 3 := rval_size Try.sizeOf161
theorem ag161 {F : Fr} {h : Hp} {K : Bool → Hp → Prop} : dwp Try.prog F (isAgg 161) h K = K true h := dwp_agg_of Try.isAgg161
theorem ra161 {F : Fr} {S : Hp} : rval Try.prog F (isAgg 161) S = some true := rval_agg Try.isAgg161
theorem ze161 {F : Fr} {h : Hp} {K : Value → Hp → Prop} : dwp Try.prog F (zeroValue 161) h K = K (Go.Value.agg #[Go.Value.slice none 0 0, Go.Value.slice none 0 0, Go.Value.slice none 0 0]) h := dwp_zero_of Try.zeroValue161
theorem rz161 {F : Fr} {S : Hp} : rval Try.prog F (zeroValue 161) S = some (Go.Value.agg #[Go.Value.slice none 0 0, Go.Value.slice none 0 0, Go.Value.slice none 0 0]) := rval_zero Try.zeroValue161
theorem un162 {F : Fr} {h : Hp} {K : TypeDesc → Hp → Prop} : dwp Try.prog F (underlying 162) h K = K (Go.TypeDesc.struct #[{ name := "ZoneTable", type := 99, offset := 0, embedded := true, tag := "", pkgPath := "", byteOffset := 0 }]) h := by rw [dwp_underlying, Try.underlying162]; rfl
theorem ru162 {F : Fr} {S : Hp} : rval Try.prog F (underlying 162) S = some (Go.TypeDesc.struct #[{ name := "ZoneTable", type := 99, offset := 0, embedded := true, tag := "", pkgPath := "", byteOffset := 0 }]) := rval_un Try.underlying162
theorem sz162 {F : Fr} {h : Hp} {K : Nat → Hp → Prop} : dwp Try.prog F (sizeOf 162) h K = K 3 h := dwp_size_of Try.sizeOf162
theorem rs162 {F : Fr} {S : Hp} : rval Try.prog F (sizeOf 162) S = some 3 := rval_size Try.sizeOf162
theorem ag162 {F : Fr} {h : Hp} {K : Bool → Hp → Prop} : dwp Try.prog F (isAgg 162) h K = K true h := dwp_agg_of Try.isAgg162
theorem ra162 {F : Fr} {S : Hp} : rval Try.prog F (isAgg 162) S = some true := rval_agg Try.isAgg162
theorem ze162 {F : Fr} {h : Hp} {K : Value → Hp → Prop} : dwp Try.prog F (zeroValue 162) h K = K (Go.Value.agg #[Go.Value.slice none 0 0, Go.Value.slice none 0 0, Go.Value.slice none 0 0]) h := dwp_zero_of Try.zeroValue162
theorem rz162 {F : Fr} {S : Hp} : rval Try.prog F (zeroValue 162) S = some (Go.Value.agg #[Go.Value.slice none 0 0, Go.Value.slice none 0 0, Go.Value.slice none 0 0]) := rval_zero Try.zeroValue162
theorem un163 {F : Fr} {h : Hp} {K : TypeDesc → Hp → Prop} : dwp Try.prog F (underlying 163) h K = K (Go.TypeDesc.tuple #[162, 3, 35]) h := by rw [dwp_underlying, Try.underlying163]; rfl
theorem ru163 {F : Fr} {S : Hp} : rval Try.prog F (underlying 163) S = some (Go.TypeDesc.tuple #[162, 3, 35]) := rval_un Try.underlying163
theorem sz163 {F : Fr} {h : Hp} {K : Nat → Hp → Prop} : dwp Try.prog F (sizeOf 163) h K = K 1 h := dwp_size_of Try.sizeOf163
theorem rs163 {F : Fr} {S : Hp} : rval Try.prog F (sizeOf 163) S = some 1 := rval_size Try.sizeOf163
theorem ag163 {F : Fr} {h : Hp} {K : Bool → Hp → Prop} : dwp Try.prog F (isAgg 163) h K = K false h := dwp_agg_of Try.isAgg163
theorem ra163 {F : Fr} {S : Hp} : rval Try.prog F (isAgg 163) S = some false := rval_agg Try.isAgg163
theorem ze163 {F : Fr} {h : Hp} {K : Value → Hp → Prop} : dwp Try.prog F (zeroValue 163) h K = K (Go.Value.tuple #[Go.Value.agg #[Go.Value.slice none 0 0, Go.Value.slice none 0 0, Go.Value.slice none 0 0], Go.Value.int Go.IntKind.i64 0, Go.Value.int Go.IntKind.i64 0]) h := dwp_zero_of Try.zeroValue163
theorem rz163 {F : Fr} {S : Hp} : rval Try.prog F (zeroValue 163) S = some (Go.Value.tuple #[Go.Value.agg #[Go.Value.slice none 0 0, Go.Value.slice none 0 0, Go.Value.slice none 0 0], Go.Value.int Go.IntKind.i64 0, Go.Value.int Go.IntKind.i64 0]) := rval_zero Try.zeroValue163
theorem un164 {F : Fr} {h : Hp} {K : TypeDesc → Hp → Prop} : dwp Try.prog F (underlying 164) h K = K (Go.TypeDesc.func #[99, 3, 193] #[162, 3, 35] true) h := by rw [dwp_underlying, Try.underlying164]; rfl
theorem ru164 {F : Fr} {S : Hp} : rval Try.prog F (underlying 164) S = some (Go.TypeDesc.func #[99, 3, 193] #[162, 3, 35] true) := rval_un Try.underlying164
theorem sz164 {F : Fr} {h : Hp} {K : Nat → Hp → Prop} : dwp Try.prog F (sizeOf 164) h K = K 1 h := dwp_size_of Try.sizeOf164
theorem rs164 {F : Fr} {S : Hp} : rval Try.prog F (sizeOf 164) S = some 1 := rval_size Try.sizeOf164
theorem ag164 {F : Fr} {h : Hp} {K : Bool → Hp → Prop} : dwp Try.prog F (isAgg 164) h K = K false h := dwp_agg_of Try.isAgg164
theorem ra164 {F : Fr} {S : Hp} : rval Try.prog F (isAgg 164) S = some false := rval_agg Try.isAgg164
theorem ze164 {F : Fr} {h : Hp} {K : Value → Hp → Prop} : dwp Try.prog F (zeroValue 164) h K = K Go.Value.nilFunc h := dwp_zero_of Try.zeroValue164
theorem rz164 {F : Fr} {S : Hp} : rval Try.prog F (zeroValue 164) S = some (Go.Value.nilFunc) := rval_zero Try.zeroValue164
theorem un165 {F : Fr} {h : Hp} {K : TypeDesc → Hp → Prop} : dwp Try.prog F (underlying 165) h K = K (Go.TypeDesc.struct #[{ name := "Span", type := 30, offset := 0, embedded := true, tag := "", pkgPath := "", byteOffset := 0 }]) h := by rw [dwp_underlying, Try.underlying165]; rfl
theorem ru165 {F : Fr} {S : Hp} : rval Try.prog F (underlying 165) S = some (Go.TypeDesc.struct #[{ name := "Span", type := 30, offset := 0, embedded := true, tag := "", pkgPath := "", byteOffset := 0 }]) := rval_un Try.underlying165
theorem sz165 {F : Fr} {h : Hp} {K : Nat → Hp → Prop} : dwp Try.prog F (sizeOf 165) h K = K 2 h := dwp_size_of Try.sizeOf165
theorem rs165 {F : Fr} {S : Hp} : rval Try.prog F (sizeOf 165) S = some 2 := rval_size Try.sizeOf165
theorem ag165 {F : Fr} {h : Hp} {K : Bool → Hp → Prop} : dwp Try.prog F (isAgg 165) h K = K true h := dwp_agg_of Try.isAgg165
theorem ra165 {F : Fr} {S : Hp} : rval Try.prog F (isAgg 165) S = some true := rval_agg Try.isAgg165
theorem ze165 {F : Fr} {h : Hp} {K : Value → Hp → Prop} : dwp Try.prog F (zeroValue 165) h K = K (Go.Value.agg #[Go.Value.int Go.IntKind.i64 0, Go.Value.int Go.IntKind.i64 0]) h := dwp_zero_of Try.zeroValue165
theorem rz165 {F : Fr} {S : Hp} : rval Try.prog F (zeroValue 165) S = some (Go.Value.agg #[Go.Value.int Go.IntKind.i64 0, Go.Value.int Go.IntKind.i64 0]) := rval_zero Try.zeroValue165
theorem un166 {F : Fr} {h : Hp} {K : TypeDesc → Hp → Prop} : dwp Try.prog F (underlying 166) h K = K (Go.TypeDesc.func #[102, 4, 3, 3] #[165] false) h := by rw [dwp_underlying, Try.underlying166]; rfl
theorem ru166 {F : Fr} {S : Hp} : rval Try.prog F (underlying 166) S = some (Go.TypeDesc.func #[102, 4, 3, 3] #[165] false) := rval_un Try.underlying166
theorem sz166 {F : Fr} {h : Hp} {K : Nat → Hp → Prop} : dwp Try.prog F (sizeOf 166) h K = K 1 h := dwp_size_of Try.sizeOf166
theorem rs166 {F : Fr} {S : Hp} : rval Try.prog F (sizeOf 166) S = some 1 := rval_size Try.sizeOf166
theorem ag166 {F : Fr} {h : Hp} {K : Bool → Hp → Prop} : dwp Try.prog F (isAgg 166) h K = K false h := dwp_agg_of Try.isAgg166
theorem ra166 {F : Fr} {S : Hp} : rval Try.prog F (isAgg 166) S = some false := rval_agg Try.isAgg166
theorem ze166 {F : Fr} {h : Hp} {K : Value → Hp → Prop} : dwp Try.prog F (zeroValue 166) h K = K Go.Value.nilFunc h := dwp_zero_of Try.zeroValue166
theorem rz166 {F : Fr} {S : Hp} : rval Try.prog F (zeroValue 166) S = some (Go.Value.nilFunc) := rval_zero Try.zeroValue166
theorem un167 {F : Fr} {h : Hp} {K : TypeDesc → Hp → Prop} : dwp Try.prog F (underlying 167) h K = K (Go.TypeDesc.slice 49) h := by rw [dwp_underlying, Try.underlying167]; rfl
theorem ru167 {F : Fr} {S : Hp} : rval Try.prog F (underlying 167) S = some (Go.TypeDesc.slice 49) := rval_un Try.underlying167
theorem ix167 {F : Fr} {h : Hp} {a : Addr} {n c : Nat} {k : IntKind} {i : Int} {K : Value → Hp → Prop} (h1 : 0 ≤ i) (h2 : i < (n : Int)) : dwp Try.prog F (Instr.indexAt 167 (.slice (some a) n c) (.int k i)) h K = K (.pointer (some (a.add (i.toNat * 7)))) h := dwp_ixS Try.underlying167 Try.sizeOf49 h1 h2
theorem rx167 {F : Fr} {S : Hp} {a : Addr} {n c : Nat} {k : IntKind} {i : Int} (h1 : 0 ≤ i) (h2 : i < (n : Int)) : rval Try.prog F (Instr.indexAt 167 (.slice (some a) n c) (.int k i)) S = some (.pointer (some (a.add (i.toNat * 7)))) := rval_ixS Try.underlying167 Try.sizeOf49 h1 h2
theorem sz167 {F : Fr} {h : Hp} {K : Nat → Hp → Prop} : dwp Try.prog F (sizeOf 167) h K = K 1 h := dwp_size_of Try.sizeOf167
theorem rs167 {F : Fr} {S : Hp} : rval Try.prog F (sizeOf 167) S = some 1 := rval_size Try.sizeOf167
theorem ag167 {F : Fr} {h : Hp} {K : Bool → Hp → Prop} : dwp Try.prog F (isAgg 167) h K = K false h := dwp_agg_of Try.isAgg167
theorem ra167 {F : Fr} {S : Hp} : rval Try.prog F (isAgg 167) S = some false := rval_agg Try.isAgg167
theorem ze167 {F : Fr} {h : Hp} {K : Value → Hp → Prop} : dwp Try.prog F (zeroValue 167) h K = K (Go.Value.slice none 0 0) h := dwp_zero_of Try.zeroValue167
theorem rz167 {F : Fr} {S : Hp} : rval Try.prog F (zeroValue 167) S = some (Go.Value.slice none 0 0) := rval_zero Try.zeroValue167
theorem un168 {F : Fr} {h : Hp} {K : TypeDesc → Hp → Prop} : dwp Try.prog F (underlying 168) h K = K (Go.TypeDesc.func #[32] #[35] false) h := by rw [dwp_underlying, Try.underlying168]; rfl
theorem ru168 {F : Fr} {S : Hp} : rval Try.prog F (underlying 168) S = some (Go.TypeDesc.func #[32] #[35] false) := rval_un Try.underlying168
theorem sz168 {F : Fr} {h : Hp} {K : Nat → Hp → Prop} : dwp Try.prog F (sizeOf 168) h K = K 1 h := dwp_size_of Try.sizeOf168
theorem rs168 {F : Fr} {S : Hp} : rval Try.prog F (sizeOf 168) S = some 1 := rval_size Try.sizeOf168
theorem ag168 {F : Fr} {h : Hp} {K : Bool → Hp → Prop} : dwp Try.prog F (isAgg 168) h K = K false h := dwp_agg_of Try.isAgg168
theorem ra168 {F : Fr} {S : Hp} : rval Try.prog F (isAgg 168) S = some false := rval_agg Try.isAgg168
theorem ze168 {F : Fr} {h : Hp} {K : Value → Hp → Prop} : dwp Try.prog F (zeroValue 168) h K = K Go.Value.nilFunc h := dwp_zero_of Try.zeroValue168
theorem rz168 {F : Fr} {S : Hp} : rval Try.prog F (zeroValue 168) S = some (Go.Value.nilFunc) := rval_zero Try.zeroValue168
theorem un169 {F : Fr} {h : Hp} {K : TypeDesc → Hp → Prop} : dwp Try.prog F (underlying 169) h K = K (Go.TypeDesc.func #[167, 170] #[4] false) h := by rw [dwp_underlying, Try.underlying169]; rfl
theorem ru169 {F : Fr} {S : Hp} : rval Try.prog F (underlying 169) S = some (Go.TypeDesc.func #[167, 170] #[4] false) := rval_un Try.underlying169
theorem sz169 {F : Fr} {h : Hp} {K : Nat → Hp → Prop} : dwp Try.prog F (sizeOf 169) h K = K 1 h := dwp_size_of Try.sizeOf169
theorem rs169 {F : Fr} {S : Hp} : rval Try.prog F (sizeOf 169) S = some 1 := rval_size Try.sizeOf169
theorem ag169 {F : Fr} {h : Hp} {K : Bool → Hp → Prop} : dwp Try.prog F (isAgg 169) h K = K false h := dwp_agg_of Try.isAgg169
theorem ra169 {F : Fr} {S : Hp} : rval Try.prog F (isAgg 169) S = some false := rval_agg Try.isAgg169
theorem ze169 {F : Fr} {h : Hp} {K : Value → Hp → Prop} : dwp Try.prog F (zeroValue 169) h K = K Go.Value.nilFunc h := dwp_zero_of Try.zeroValue169
theorem rz169 {F : Fr} {S : Hp} : rval Try.prog F (zeroValue 169) S = some (Go.Value.nilFunc) := rval_zero Try.zeroValue169
theorem un170 {F : Fr} {h : Hp} {K : TypeDesc → Hp → Prop} : dwp Try.prog F (underlying 170) h K = K (Go.TypeDesc.func #[49] #[4] false) h := by rw [dwp_underlying, Try.underlying170]; rfl
theorem ru170 {F : Fr} {S : Hp} : rval Try.prog F (underlying 170) S = some (Go.TypeDesc.func #[49] #[4] false) := rval_un Try.underlying170
theorem sz170 {F : Fr} {h : Hp} {K : Nat → Hp → Prop} : dwp Try.prog F (sizeOf 170) h K = K 1 h := dwp_size_of Try.sizeOf170
theorem rs170 {F : Fr} {S : Hp} : rval Try.prog F (sizeOf 170) S = some 1 := rval_size Try.sizeOf170
theorem ag170 {F : Fr} {h : Hp} {K : Bool → Hp → Prop} : dwp Try.prog F (isAgg 170) h K = K false h := dwp_agg_of Try.isAgg170
theorem ra170 {F : Fr} {S : Hp} : rval Try.prog F (isAgg 170) S = some false := rval_agg Try.isAgg170
theorem ze170 {F : Fr} {h : Hp} {K : Value → Hp → Prop} : dwp Try.prog F (zeroValue 170) h K = K Go.Value.nilFunc h := dwp_zero_of Try.zeroValue170
theorem rz170 {F : Fr} {S : Hp} : rval Try.prog F (zeroValue 170) S = some (Go.Value.nilFunc) := rval_zero Try.zeroValue170
theorem un171 {F : Fr} {h : Hp} {K : TypeDesc → Hp → Prop} : dwp Try.prog F (underlying 171) h K = K (Go.TypeDesc.func #[3, 3] #[4] false) h := by rw [dwp_underlying, Try.underlying171]; rfl
theorem ru171 {F : Fr} {S : Hp} : rval Try.prog F (underlying 171) S = some (Go.TypeDesc.func #[3, 3] #[4] false) := rval_un Try.underlying171
theorem sz171 {F : Fr} {h : Hp} {K : Nat → Hp → Prop} : dwp Try.prog F (sizeOf 171) h K = K 1 h := dwp_size_of Try.sizeOf171
theorem rs171 {F : Fr} {S : Hp} : rval Try.prog F (sizeOf 171) S = some 1 := rval_size Try.sizeOf171
theorem ag171 {F : Fr} {h : Hp} {K : Bool → Hp → Prop} : dwp Try.prog F (isAgg 171) h K = K false h := dwp_agg_of Try.isAgg171
theorem ra171 {F : Fr} {S : Hp} : rval Try.prog F (isAgg 171) S = some false := rval_agg Try.isAgg171
theorem ze171 {F : Fr} {h : Hp} {K : Value → Hp → Prop} : dwp Try.prog F (zeroValue 171) h K = K Go.Value.nilFunc h := dwp_zero_of Try.zeroValue171
theorem rz171 {F : Fr} {S : Hp} : rval Try.prog F (zeroValue 171) S = some (Go.Value.nilFunc) := rval_zero Try.zeroValue171
theorem un172 {F : Fr} {h : Hp} {K : TypeDesc → Hp → Prop} : dwp Try.prog F (underlying 172) h K = K (Go.TypeDesc.array 2 165) h := by rw [dwp_underlying, Try.underlying172]; rfl
theorem ru172 {F : Fr} {S : Hp} : rval Try.prog F (underlying 172) S = some (Go.TypeDesc.array 2 165) := rval_un Try.underlying172
theorem ix172 {F : Fr} {h : Hp} {a : Addr} {k : IntKind} {i : Int} {K : Value → Hp → Prop} (h1 : 0 ≤ i) (h2 : i < ((2 : Nat) : Int)) : dwp Try.prog F (Instr.indexAt 172 (.pointer (some a)) (.int k i)) h K = K (.pointer (some (a.add (i.toNat * 2)))) h := dwp_ixA Try.underlying172 Try.sizeOf165 h1 h2
theorem rx172 {F : Fr} {S : Hp} {a : Addr} {k : IntKind} {i : Int} (h1 : 0 ≤ i) (h2 : i < ((2 : Nat) : Int)) : rval Try.prog F (Instr.indexAt 172 (.pointer (some a)) (.int k i)) S = some (.pointer (some (a.add (i.toNat * 2)))) := rval_ixA Try.underlying172 Try.sizeOf165 h1 h2
theorem sz172 {F : Fr} {h : Hp} {K : Nat → Hp → Prop} : dwp Try.prog F (sizeOf 172) h K = K 4 h := dwp_size_of Try.sizeOf172
theorem rs172 {F : Fr} {S : Hp} : rval Try.prog F (sizeOf 172) S = some 4 := rval_size Try.sizeOf172
theorem ag172 {F : Fr} {h : Hp} {K : Bool → Hp → Prop} : dwp Try.prog F (isAgg 172) h K = K true h := dwp_agg_of Try.isAgg172
theorem ra172 {F : Fr} {S : Hp} : rval Try.prog F (isAgg 172) S = some true := rval_agg Try.isAgg172
theorem ze172 {F : Fr} {h : Hp} {K : Value → Hp → Prop} : dwp Try.prog F (zeroValue 172) h K = K (Go.Value.agg #[Go.Value.int Go.IntKind.i64 0, Go.Value.int Go.IntKind.i64 0, Go.Value.int Go.IntKind.i64 0, Go.Value.int Go.IntKind.i64 0]) h := dwp_zero_of Try.zeroValue172
theorem rz172 {F : Fr} {S : Hp} : rval Try.prog F (zeroValue 172) S = some (Go.Value.agg #[Go.Value.int Go.IntKind.i64 0, Go.Value.int Go.IntKind.i64 0, Go.Value.int Go.IntKind.i64 0, Go.Value.int Go.IntKind.i64 0]) := rval_zero Try.zeroValue172
theorem un173 {F : Fr} {h : Hp} {K : TypeDesc → Hp → Prop} : dwp Try.prog F (underlying 173) h K = K (Go.TypeDesc.func #[165, 165, 3, 30] #[4] false) h := by rw [dwp_underlying, Try.underlying173]; rfl
theorem ru173 {F : Fr} {S : Hp} : rval Try.prog F (underlying 173) S = some (Go.TypeDesc.func #[165, 165, 3, 30] #[4] false) := rval_un Try.underlying173
theorem sz173 {F : Fr} {h : Hp} {K : Nat → Hp → Prop} : dwp Try.prog F (sizeOf 173) h K = K 1 h := dwp_size_of Try.sizeOf173
theorem rs173 {F : Fr} {S : Hp} : rval Try.prog F (sizeOf 173) S = some 1 := rval_size Try.sizeOf173
theorem ag173 {F : Fr} {h : Hp} {K : Bool → Hp → Prop} : dwp Try.prog F (isAgg 173) h K = K false h := dwp_agg_of Try.isAgg173
theorem ra173 {F : Fr} {S : Hp} : rval Try.prog F (isAgg 173) S = some false := rval_agg Try.isAgg173
theorem ze173 {F : Fr} {h : Hp} {K : Value → Hp → Prop} : dwp Try.prog F (zeroValue 173) h K = K Go.Value.nilFunc h := dwp_zero_of Try.zeroValue173
theorem rz173 {F : Fr} {S : Hp} : rval Try.prog F (zeroValue 173) S = some (Go.Value.nilFunc) := rval_zero Try.zeroValue173
theorem un174 {F : Fr} {h : Hp} {K : TypeDesc → Hp → Prop} : dwp Try.prog F (underlying 174) h K = K (Go.TypeDesc.func #[49, 201, 201] #[3] false) h := by rw [dwp_underlying, Try.underlying174]; rfl
theorem ru174 {F : Fr} {S : Hp} : rval Try.prog F (underlying 174) S = some (Go.TypeDesc.func #[49, 201, 201] #[3] false) := rval_un Try.underlying174
theorem sz174 {F : Fr} {h : Hp} {K : Nat → Hp → Prop} : dwp Try.prog F (sizeOf 174) h K = K 1 h := dwp_size_of Try.sizeOf174
theorem rs174 {F : Fr} {S : Hp} : rval Try.prog F (sizeOf 174) S = some 1 := rval_size Try.sizeOf174
theorem ag174 {F : Fr} {h : Hp} {K : Bool → Hp → Prop} : dwp Try.prog F (isAgg 174) h K = K false h := dwp_agg_of Try.isAgg174
theorem ra174 {F : Fr} {S : Hp} : rval Try.prog F (isAgg 174) S = some false := rval_agg Try.isAgg174
theorem ze174 {F : Fr} {h : Hp} {K : Value → Hp → Prop} : dwp Try.prog F (zeroValue 174) h K = K Go.Value.nilFunc h := dwp_zero_of Try.zeroValue174
theorem rz174 {F : Fr} {S : Hp} : rval Try.prog F (zeroValue 174) S = some (Go.Value.nilFunc) := rval_zero Try.zeroValue174
theorem un175 {F : Fr} {h : Hp} {K : TypeDesc → Hp → Prop} : dwp Try.prog F (underlying 175) h K = K (Go.TypeDesc.func #[30] #[3] false) h := by rw [dwp_underlying, Try.underlying175]; rfl
theorem ru175 {F : Fr} {S : Hp} : rval Try.prog F (underlying 175) S = some (Go.TypeDesc.func #[30] #[3] false) := rval_un Try.underlying175
theorem sz175 {F : Fr} {h : Hp} {K : Nat → Hp → Prop} : dwp Try.prog F (sizeOf 175) h K = K 1 h := dwp_size_of Try.sizeOf175
theorem rs175 {F : Fr} {S : Hp} : rval Try.prog F (sizeOf 175) S = some 1 := rval_size Try.sizeOf175
theorem ag175 {F : Fr} {h : Hp} {K : Bool → Hp → Prop} : dwp Try.prog F (isAgg 175) h K = K false h := dwp_agg_of Try.isAgg175
theorem ra175 {F : Fr} {S : Hp} : rval Try.prog F (isAgg 175) S = some false := rval_agg Try.isAgg175
theorem ze175 {F : Fr} {h : Hp} {K : Value → Hp → Prop} : dwp Try.prog F (zeroValue 175) h K = K Go.Value.nilFunc h := dwp_zero_of Try.zeroValue175
theorem rz175 {F : Fr} {S : Hp} : rval Try.prog F (zeroValue 175) S = some (Go.Value.nilFunc) := rval_zero Try.zeroValue175
theorem un176 {F : Fr} {h : Hp} {K : TypeDesc → Hp → Prop} : dwp Try.prog F (underlying 176) h K = K (Go.TypeDesc.func #[80, 177] #[4] false) h := by rw [dwp_underlying, Try.underlying176]; rfl
theorem ru176 {F : Fr} {S : Hp} : rval Try.prog F (underlying 176) S = some (Go.TypeDesc.func #[80, 177] #[4] false) := rval_un Try.underlying176
theorem sz176 {F : Fr} {h : Hp} {K : Nat → Hp → Prop} : dwp Try.prog F (sizeOf 176) h K = K 1 h := dwp_size_of Try.sizeOf176
theorem rs176 {F : Fr} {S : Hp} : rval Try.prog F (sizeOf 176) S = some 1 := rval_size Try.sizeOf176
theorem ag176 {F : Fr} {h : Hp} {K : Bool → Hp → Prop} : dwp Try.prog F (isAgg 176) h K = K false h := dwp_agg_of Try.isAgg176
theorem ra176 {F : Fr} {S : Hp} : rval Try.prog F (isAgg 176) S = some false := rval_agg Try.isAgg176
theorem ze176 {F : Fr} {h : Hp} {K : Value → Hp → Prop} : dwp Try.prog F (zeroValue 176) h K = K Go.Value.nilFunc h := dwp_zero_of Try.zeroValue176
theorem rz176 {F : Fr} {S : Hp} : rval Try.prog F (zeroValue 176) S = some (Go.Value.nilFunc) := rval_zero Try.zeroValue176
theorem un177 {F : Fr} {h : Hp} {K : TypeDesc → Hp → Prop} : dwp Try.prog F (underlying 177) h K = K (Go.TypeDesc.func #[3] #[4] false) h := by rw [dwp_underlying, Try.underlying177]; rfl
theorem ru177 {F : Fr} {S : Hp} : rval Try.prog F (underlying 177) S = some (Go.TypeDesc.func #[3] #[4] false) := rval_un Try.underlying177
theorem sz177 {F : Fr} {h : Hp} {K : Nat → Hp → Prop} : dwp Try.prog F (sizeOf 177) h K = K 1 h := dwp_size_of Try.sizeOf177
theorem rs177 {F : Fr} {S : Hp} : rval Try.prog F (sizeOf 177) S = some 1 := rval_size Try.sizeOf177
theorem ag177 {F : Fr} {h : Hp} {K : Bool → Hp → Prop} : dwp Try.prog F (isAgg 177) h K = K false h := dwp_agg_of Try.isAgg177
theorem ra177 {F : Fr} {S : Hp} : rval Try.prog F (isAgg 177) S = some false := rval_agg Try.isAgg177
theorem ze177 {F : Fr} {h : Hp} {K : Value → Hp → Prop} : dwp Try.prog F (zeroValue 177) h K = K Go.Value.nilFunc h := dwp_zero_of Try.zeroValue177
theorem rz177 {F : Fr} {S : Hp} : rval Try.prog F (zeroValue 177) S = some (Go.Value.nilFunc) := rval_zero Try.zeroValue177
theorem un178 {F : Fr} {h : Hp} {K : TypeDesc → Hp → Prop} : dwp Try.prog F (underlying 178) h K = K (Go.TypeDesc.slice 67) h := by rw [dwp_underlying, Try.underlying178]; rfl
theorem ru178 {F : Fr} {S : Hp} : rval Try.prog F (underlying 178) S = some (Go.TypeDesc.slice 67) := rval_un Try.underlying178
theorem ix178 {F : Fr} {h : Hp} {a : Addr} {n c : Nat} {k : IntKind} {i : Int} {K : Value → Hp → Prop} (h1 : 0 ≤ i) (h2 : i < (n : Int)) : dwp Try.prog F (Instr.indexAt 178 (.slice (some a) n c) (.int k i)) h K = K (.pointer (some (a.add (i.toNat * 3)))) h := dwp_ixS Try.underlying178 Try.sizeOf67 h1 h2
theorem rx178 {F : Fr} {S : Hp} {a : Addr} {n c : Nat} {k : IntKind} {i : Int} (h1 : 0 ≤ i) (h2 : i < (n : Int)) : rval Try.prog F (Instr.indexAt 178 (.slice (some a) n c) (.int k i)) S = some (.pointer (some (a.add (i.toNat * 3)))) := rval_ixS Try.underlying178 Try.sizeOf67 h1 h2
theorem sz178 {F : Fr} {h : Hp} {K : Nat → Hp → Prop} : dwp Try.prog F (sizeOf 178) h K = K 1 h := dwp_size_of Try.sizeOf178
theorem rs178 {F : Fr} {S : Hp} : rval Try.prog F (sizeOf 178) S = some 1 := rval_size Try.sizeOf178
theorem ag178 {F : Fr} {h : Hp} {K : Bool → Hp → Prop} : dwp Try.prog F (isAgg 178) h K = K false h := dwp_agg_of Try.isAgg178
theorem ra178 {F : Fr} {S : Hp} : rval Try.prog F (isAgg 178) S = some false := rval_agg Try.isAgg178
theorem ze178 {F : Fr} {h : Hp} {K : Value → Hp → Prop} : dwp Try.prog F (zeroValue 178) h K = K (Go.Value.slice none 0 0) h := dwp_zero_of Try.zeroValue178
theorem rz178 {F : Fr} {S : Hp} : rval Try.prog F (zeroValue 178) S = some (Go.Value.slice none 0 0) := rval_zero Try.zeroValue178
theorem un179 {F : Fr} {h : Hp} {K : TypeDesc → Hp → Prop} : dwp Try.prog F (underlying 179) h K = K (Go.TypeDesc.func #[171] #[] false) h := by rw [dwp_underlying, Try.underlying179]; rfl
theorem ru179 {F : Fr} {S : Hp} : rval Try.prog F (underlying 179) S = some (Go.TypeDesc.func #[171] #[] false) := rval_un Try.underlying179
theorem sz179 {F : Fr} {h : Hp} {K : Nat → Hp → Prop} : dwp Try.prog F (sizeOf 179) h K = K 1 h := dwp_size_of Try.sizeOf179
theorem rs179 {F : Fr} {S : Hp} : rval Try.prog F (sizeOf 179) S = some 1 := rval_size Try.sizeOf179
theorem ag179 {F : Fr} {h : Hp} {K : Bool → Hp → Prop} : dwp Try.prog F (isAgg 179) h K = K false h := dwp_agg_of Try.isAgg179
theorem ra179 {F : Fr} {S : Hp} : rval Try.prog F (isAgg 179) S = some false := rval_agg Try.isAgg179
theorem ze179 {F : Fr} {h : Hp} {K : Value → Hp → Prop} : dwp Try.prog F (zeroValue 179) h K = K Go.Value.nilFunc h := dwp_zero_of Try.zeroValue179
theorem rz179 {F : Fr} {S : Hp} : rval Try.prog F (zeroValue 179) S = some (Go.Value.nilFunc) := rval_zero Try.zeroValue179
theorem un180 {F : Fr} {h : Hp} {K : TypeDesc → Hp → Prop} : dwp Try.prog F (underlying 180) h K = K (Go.TypeDesc.func #[67] #[179] false) h := by rw [dwp_underlying, Try.underlying180]; rfl
theorem ru180 {F : Fr} {S : Hp} : rval Try.prog F (underlying 180) S = some (Go.TypeDesc.func #[67] #[179] false) := rval_un Try.underlying180
theorem sz180 {F : Fr} {h : Hp} {K : Nat → Hp → Prop} : dwp Try.prog F (sizeOf 180) h K = K 1 h := dwp_size_of Try.sizeOf180
theorem rs180 {F : Fr} {S : Hp} : rval Try.prog F (sizeOf 180) S = some 1 := rval_size Try.sizeOf180
theorem ag180 {F : Fr} {h : Hp} {K : Bool → Hp → Prop} : dwp Try.prog F (isAgg 180) h K = K false h := dwp_agg_of Try.isAgg180
theorem ra180 {F : Fr} {S : Hp} : rval Try.prog F (isAgg 180) S = some false := rval_agg Try.isAgg180
theorem ze180 {F : Fr} {h : Hp} {K : Value → Hp → Prop} : dwp Try.prog F (zeroValue 180) h K = K Go.Value.nilFunc h := dwp_zero_of Try.zeroValue180
theorem rz180 {F : Fr} {S : Hp} : rval Try.prog F (zeroValue 180) S = some (Go.Value.nilFunc) := rval_zero Try.zeroValue180
theorem un181 {F : Fr} {h : Hp} {K : TypeDesc → Hp → Prop} : dwp Try.prog F (underlying 181) h K = K (Go.TypeDesc.func #[80] #[3] false) h := by rw [dwp_underlying, Try.underlying181]; rfl
theorem ru181 {F : Fr} {S : Hp} : rval Try.prog F (underlying 181) S = some (Go.TypeDesc.func #[80] #[3] false) := rval_un Try.underlying181
theorem sz181 {F : Fr} {h : Hp} {K : Nat → Hp → Prop} : dwp Try.prog F (sizeOf 181) h K = K 1 h := dwp_size_of Try.sizeOf181
theorem rs181 {F : Fr} {S : Hp} : rval Try.prog F (sizeOf 181) S = some 1 := rval_size Try.sizeOf181
theorem ag181 {F : Fr} {h : Hp} {K : Bool → Hp → Prop} : dwp Try.prog F (isAgg 181) h K = K false h := dwp_agg_of Try.isAgg181
theorem ra181 {F : Fr} {S : Hp} : rval Try.prog F (isAgg 181) S = some false := rval_agg Try.isAgg181
theorem ze181 {F : Fr} {h : Hp} {K : Value → Hp → Prop} : dwp Try.prog F (zeroValue 181) h K = K Go.Value.nilFunc h := dwp_zero_of Try.zeroValue181
theorem rz181 {F : Fr} {S : Hp} : rval Try.prog F (zeroValue 181) S = some (Go.Value.nilFunc) := rval_zero Try.zeroValue181
theorem un182 {F : Fr} {h : Hp} {K : TypeDesc → Hp → Prop} : dwp Try.prog F (underlying 182) h K = K (Go.TypeDesc.func #[67] #[35] false) h := by rw [dwp_underlying, Try.underlying182]; rfl
theorem ru182 {F : Fr} {S : Hp} : rval Try.prog F (underlying 182) S = some (Go.TypeDesc.func #[67] #[35] false) := rval_un Try.underlying182
theorem sz182 {F : Fr} {h : Hp} {K : Nat → Hp → Prop} : dwp Try.prog F (sizeOf 182) h K = K 1 h := dwp_size_of Try.sizeOf182
theorem rs182 {F : Fr} {S : Hp} : rval Try.prog F (sizeOf 182) S = some 1 := rval_size Try.sizeOf182
theorem ag182 {F : Fr} {h : Hp} {K : Bool → Hp → Prop} : dwp Try.prog F (isAgg 182) h K = K false h := dwp_agg_of Try.isAgg182
theorem ra182 {F : Fr} {S : Hp} : rval Try.prog F (isAgg 182) S = some false := rval_agg Try.isAgg182
theorem ze182 {F : Fr} {h : Hp} {K : Value → Hp → Prop} : dwp Try.prog F (zeroValue 182) h K = K Go.Value.nilFunc h := dwp_zero_of Try.zeroValue182
theorem rz182 {F : Fr} {S : Hp} : rval Try.prog F (zeroValue 182) S = some (Go.Value.nilFunc) := rval_zero Try.zeroValue182
theorem un183 {F : Fr} {h : Hp} {K : TypeDesc → Hp → Prop} : dwp Try.prog F (underlying 183) h K = K (Go.TypeDesc.func #[30] #[35] false) h := by rw [dwp_underlying, Try.underlying183]; rfl
theorem ru183 {F : Fr} {S : Hp} : rval Try.prog F (underlying 183) S = some (Go.TypeDesc.func #[30] #[35] false) := rval_un Try.underlying183
theorem sz183 {F : Fr} {h : Hp} {K : Nat → Hp → Prop} : dwp Try.prog F (sizeOf 183) h K = K 1 h := dwp_size_of Try.sizeOf183
theorem rs183 {F : Fr} {S : Hp} : rval Try.prog F (sizeOf 183) S = some 1 := rval_size Try.sizeOf183
theorem ag183 {F : Fr} {h : Hp} {K : Bool → Hp → Prop} : dwp Try.prog F (isAgg 183) h K = K false h := dwp_agg_of Try.isAgg183
theorem ra183 {F : Fr} {S : Hp} : rval Try.prog F (isAgg 183) S = some false := rval_agg Try.isAgg183
theorem ze183 {F : Fr} {h : Hp} {K : Value → Hp → Prop} : dwp Try.prog F (zeroValue 183) h K = K Go.Value.nilFunc h := dwp_zero_of Try.zeroValue183
theorem rz183 {F : Fr} {S : Hp} : rval Try.prog F (zeroValue 183) S = some (Go.Value.nilFunc) := rval_zero Try.zeroValue183
theorem un184 {F : Fr} {h : Hp} {K : TypeDesc → Hp → Prop} : dwp Try.prog F (underlying 184) h K = K (Go.TypeDesc.func #[70, 70, 67, 67] #[30] false) h := by rw [dwp_underlying, Try.underlying184]; rfl
theorem ru184 {F : Fr} {S : Hp} : rval Try.prog F (underlying 184) S = some (Go.TypeDesc.func #[70, 70, 67, 67] #[30] false) := rval_un Try.underlying184
theorem sz184 {F : Fr} {h : Hp} {K : Nat → Hp → Prop} : dwp Try.prog F (sizeOf 184) h K = K 1 h := dwp_size_of Try.sizeOf184
theorem rs184 {F : Fr} {S : Hp} : rval Try.prog F (sizeOf 184) S = some 1 := rval_size Try.sizeOf184
theorem ag184 {F : Fr} {h : Hp} {K : Bool → Hp → Prop} : dwp Try.prog F (isAgg 184) h K = K false h := dwp_agg_of Try.isAgg184
theorem ra184 {F : Fr} {S : Hp} : rval Try.prog F (isAgg 184) S = some false := rval_agg Try.isAgg184
theorem ze184 {F : Fr} {h : Hp} {K : Value → Hp → Prop} : dwp Try.prog F (zeroValue 184) h K = K Go.Value.nilFunc h := dwp_zero_of Try.zeroValue184
theorem rz184 {F : Fr} {S : Hp} : rval Try.prog F (zeroValue 184) S = some (Go.Value.nilFunc) := rval_zero Try.zeroValue184
theorem un185 {F : Fr} {h : Hp} {K : TypeDesc → Hp → Prop} : dwp Try.prog F (underlying 185) h K = K (Go.TypeDesc.func #[143] #[4] false) h := by rw [dwp_underlying, Try.underlying185]; rfl
theorem ru185 {F : Fr} {S : Hp} : rval Try.prog F (underlying 185) S = some (Go.TypeDesc.func #[143] #[4] false) := rval_un Try.underlying185
theorem sz185 {F : Fr} {h : Hp} {K : Nat → Hp → Prop} : dwp Try.prog F (sizeOf 185) h K = K 1 h := dwp_size_of Try.sizeOf185
theorem rs185 {F : Fr} {S : Hp} : rval Try.prog F (sizeOf 185) S = some 1 := rval_size Try.sizeOf185
theorem ag185 {F : Fr} {h : Hp} {K : Bool → Hp → Prop} : dwp Try.prog F (isAgg 185) h K = K false h := dwp_agg_of Try.isAgg185
theorem ra185 {F : Fr} {S : Hp} : rval Try.prog F (isAgg 185) S = some false := rval_agg Try.isAgg185
theorem ze185 {F : Fr} {h : Hp} {K : Value → Hp → Prop} : dwp Try.prog F (zeroValue 185) h K = K Go.Value.nilFunc h := dwp_zero_of Try.zeroValue185
theorem rz185 {F : Fr} {S : Hp} : rval Try.prog F (zeroValue 185) S = some (Go.Value.nilFunc) := rval_zero Try.zeroValue185
theorem un186 {F : Fr} {h : Hp} {K : TypeDesc → Hp → Prop} : dwp Try.prog F (underlying 186) h K = K (Go.TypeDesc.func #[65, 65] #[4] false) h := by rw [dwp_underlying, Try.underlying186]; rfl
theorem ru186 {F : Fr} {S : Hp} : rval Try.prog F (underlying 186) S = some (Go.TypeDesc.func #[65, 65] #[4] false) := rval_un Try.underlying186
theorem sz186 {F : Fr} {h : Hp} {K : Nat → Hp → Prop} : dwp Try.prog F (sizeOf 186) h K = K 1 h := dwp_size_of Try.sizeOf186
theorem rs186 {F : Fr} {S : Hp} : rval Try.prog F (sizeOf 186) S = some 1 := rval_size Try.sizeOf186
theorem ag186 {F : Fr} {h : Hp} {K : Bool → Hp → Prop} : dwp Try.prog F (isAgg 186) h K = K false h := dwp_agg_of Try.isAgg186
theorem ra186 {F : Fr} {S : Hp} : rval Try.prog F (isAgg 186) S = some false := rval_agg Try.isAgg186
theorem ze186 {F : Fr} {h : Hp} {K : Value → Hp → Prop} : dwp Try.prog F (zeroValue 186) h K = K Go.Value.nilFunc h := dwp_zero_of Try.zeroValue186
theorem rz186 {F : Fr} {S : Hp} : rval Try.prog F (zeroValue 186) S = some (Go.Value.nilFunc) := rval_zero Try.zeroValue186
theorem un187 {F : Fr} {h : Hp} {K : TypeDesc → Hp → Prop} : dwp Try.prog F (underlying 187) h K = K (Go.TypeDesc.func #[203] #[4] true) h := by rw [dwp_underlying, Try.underlying187]; rfl
theorem ru187 {F : Fr} {S : Hp} : rval Try.prog F (underlying 187) S = some (Go.TypeDesc.func #[203] #[4] true) := rval_un Try.underlying187
theorem sz187 {F : Fr} {h : Hp} {K : Nat → Hp → Prop} : dwp Try.prog F (sizeOf 187) h K = K 1 h := dwp_size_of Try.sizeOf187
theorem rs187 {F : Fr} {S : Hp} : rval Try.prog F (sizeOf 187) S = some 1 := rval_size Try.sizeOf187
theorem ag187 {F : Fr} {h : Hp} {K : Bool → Hp → Prop} : dwp Try.prog F (isAgg 187) h K = K false h := dwp_agg_of Try.isAgg187
theorem ra187 {F : Fr} {S : Hp} : rval Try.prog F (isAgg 187) S = some false := rval_agg Try.isAgg187
theorem ze187 {F : Fr} {h : Hp} {K : Value → Hp → Prop} : dwp Try.prog F (zeroValue 187) h K = K Go.Value.nilFunc h := dwp_zero_of Try.zeroValue187
theorem rz187 {F : Fr} {S : Hp} : rval Try.prog F (zeroValue 187) S = some (Go.Value.nilFunc) := rval_zero Try.zeroValue187
theorem un188 {F : Fr} {h : Hp} {K : TypeDesc → Hp → Prop} : dwp Try.prog F (underlying 188) h K = K (Go.TypeDesc.struct #[{ name := "SwapStandard", type := 148, offset := 0, embedded := true, tag := "", pkgPath := "", byteOffset := 0 }]) h := by rw [dwp_underlying, Try.underlying188]; rfl
theorem ru188 {F : Fr} {S : Hp} : rval Try.prog F (underlying 188) S = some (Go.TypeDesc.struct #[{ name := "SwapStandard", type := 148, offset := 0, embedded := true, tag := "", pkgPath := "", byteOffset := 0 }]) := rval_un Try.underlying188
theorem sz188 {F : Fr} {h : Hp} {K : Nat → Hp → Prop} : dwp Try.prog F (sizeOf 188) h K = K 15 h := dwp_size_of Try.sizeOf188
theorem rs188 {F : Fr} {S : Hp} : rval Try.prog F (sizeOf 188) S = some 15 := rval_size Try.sizeOf188
theorem ag188 {F : Fr} {h : Hp} {K : Bool → Hp → Prop} : dwp Try.prog F (isAgg 188) h K = K true h := dwp_agg_of Try.isAgg188
theorem ra188 {F : Fr} {S : Hp} : rval Try.prog F (isAgg 188) S = some true := rval_agg Try.isAgg188
theorem ze188 {F : Fr} {h : Hp} {K : Value → Hp → Prop} : dwp Try.prog F (zeroValue 188) h K = K (Go.Value.agg #[Go.Value.int Go.IntKind.i64 0, Go.Value.int Go.IntKind.i64 0, Go.Value.int Go.IntKind.i64 0, Go.Value.int Go.IntKind.i64 0, Go.Value.int Go.IntKind.i64 0, Go.Value.int Go.IntKind.i64 0, Go.Value.int Go.IntKind.i64 0, Go.Value.int Go.IntKind.i64 0, Go.Value.int Go.IntKind.i64 0, Go.Value.bool false, Go.Value.int Go.IntKind.i64 0, Go.Value.int Go.IntKind.i64 0, Go.Value.int Go.IntKind.i64 0, Go.Value.int Go.IntKind.i64 0, Go.Value.int Go.IntKind.i64 0]) h := dwp_zero_of Try.zeroValue188
theorem rz188 {F : Fr} {S : Hp} : rval Try.prog F (zeroValue 188) S = some (Go.Value.agg #[Go.Value.int Go.IntKind.i64 0, Go.Value.int Go.IntKind.i64 0, Go.Value.int Go.IntKind.i64 0, Go.Value.int Go.IntKind.i64 0, Go.Value.int Go.IntKind.i64 0, Go.Value.int Go.IntKind.i64 0, Go.Value.int Go.IntKind.i64 0, Go.Value.int Go.IntKind.i64 0, Go.Value.int Go.IntKind.i64 0, Go.Value.bool false, Go.Value.int Go.IntKind.i64 0, Go.Value.int Go.IntKind.i64 0, Go.Value.int Go.IntKind.i64 0, Go.Value.int Go.IntKind.i64 0, Go.Value.int Go.IntKind.i64 0]) := rval_zero Try.zeroValue188
theorem un189 {F : Fr} {h : Hp} {K : TypeDesc → Hp → Prop} : dwp Try.prog F (underlying 189) h K = K (Go.TypeDesc.struct #[{ name := "SwapStandard", type := 148, offset := 0, embedded := true, tag := "", pkgPath := "", byteOffset := 0 }]) h := by rw [dwp_underlying, Try.underlying189]; rfl
theorem ru189 {F : Fr} {S : Hp} : rval Try.prog F (underlying 189) S = some (Go.TypeDesc.struct #[{ name := "SwapStandard", type := 148, offset := 0, embedded := true, tag := "", pkgPath := "", byteOffset := 0 }]) := rval_un Try.underlying189
theorem sz189 {F : Fr} {h : Hp} {K : Nat → Hp → Prop} : dwp Try.prog F (sizeOf 189) h K = K 15 h := dwp_size_of Try.sizeOf189
theorem rs189 {F : Fr} {S : Hp} : rval Try.prog F (sizeOf 189) S = some 15 := rval_size Try.sizeOf189
theorem ag189 {F : Fr} {h : Hp} {K : Bool → Hp → Prop} : dwp Try.prog F (isAgg 189) h K = K true h := dwp_agg_of Try.isAgg189
theorem ra189 {F : Fr} {S : Hp} : rval Try.prog F (isAgg 189) S = some true := rval_agg Try.isAgg189
theorem ze189 {F : Fr} {h : Hp} {K : Value → Hp → Prop} : dwp Try.prog F (zeroValue 189) h K = K (Go.Value.agg #[Go.Value.int Go.IntKind.i64 0, Go.Value.int Go.IntKind.i64 0, Go.Value.int Go.IntKind.i64 0, Go.Value.int Go.IntKind.i64 0, Go.Value.int Go.IntKind.i64 0, Go.Value.int Go.IntKind.i64 0, Go.Value.int Go.IntKind.i64 0, Go.Value.int Go.IntKind.i64 0, Go.Value.int Go.IntKind.i64 0, Go.Value.bool false, Go.Value.int Go.IntKind.i64 0, Go.Value.int Go.IntKind.i64 0, Go.Value.int Go.IntKind.i64 0, Go.Value.int Go.IntKind.i64 0, Go.Value.int Go.IntKind.i64 0]) h := dwp_zero_of Try.zeroValue189
theorem rz189 {F : Fr} {S : Hp} : rval Try.prog F (zeroValue 189) S = some (Go.Value.agg #[Go.Value.int Go.IntKind.i64 0, Go.Value.int Go.IntKind.i64 0, Go.Value.int Go.IntKind.i64 0, Go.Value.int Go.IntKind.i64 0, Go.Value.int Go.IntKind.i64 0, Go.Value.int Go.IntKind.i64 0, Go.Value.int Go.IntKind.i64 0, Go.Value.int Go.IntKind.i64 0, Go.Value.int Go.IntKind.i64 0, Go.Value.bool false, Go.Value.int Go.IntKind.i64 0, Go.Value.int Go.IntKind.i64 0, Go.Value.int Go.IntKind.i64 0, Go.Value.int Go.IntKind.i64 0, Go.Value.int Go.IntKind.i64 0]) := rval_zero Try.zeroValue189
theorem un190 {F : Fr} {h : Hp} {K : TypeDesc → Hp → Prop} : dwp Try.prog F (underlying 190) h K = K (Go.TypeDesc.func #[189, 30] #[3] false) h := by rw [dwp_underlying, Try.underlying190]; rfl
theorem ru190 {F : Fr} {S : Hp} : rval Try.prog F (underlying 190) S = some (Go.TypeDesc.func #[189, 30] #[3] false) := rval_un Try.underlying190
theorem sz190 {F : Fr} {h : Hp} {K : Nat → Hp → Prop} : dwp Try.prog F (sizeOf 190) h K = K 1 h := dwp_size_of Try.sizeOf190
theorem rs190 {F : Fr} {S : Hp} : rval Try.prog F (sizeOf 190) S = some 1 := rval_size Try.sizeOf190
theorem ag190 {F : Fr} {h : Hp} {K : Bool → Hp → Prop} : dwp Try.prog F (isAgg 190) h K = K false h := dwp_agg_of Try.isAgg190
theorem ra190 {F : Fr} {S : Hp} : rval Try.prog F (isAgg 190) S = some false := rval_agg Try.isAgg190
theorem ze190 {F : Fr} {h : Hp} {K : Value → Hp → Prop} : dwp Try.prog F (zeroValue 190) h K = K Go.Value.nilFunc h := dwp_zero_of Try.zeroValue190
theorem rz190 {F : Fr} {S : Hp} : rval Try.prog F (zeroValue 190) S = some (Go.Value.nilFunc) := rval_zero Try.zeroValue190
theorem un191 {F : Fr} {h : Hp} {K : TypeDesc → Hp → Prop} : dwp Try.prog F (underlying 191) h K = K (Go.TypeDesc.func #[82] #[152, 35] false) h := by rw [dwp_underlying, Try.underlying191]; rfl
theorem ru191 {F : Fr} {S : Hp} : rval Try.prog F (underlying 191) S = some (Go.TypeDesc.func #[82] #[152, 35] false) := rval_un Try.underlying191
theorem sz191 {F : Fr} {h : Hp} {K : Nat → Hp → Prop} : dwp Try.prog F (sizeOf 191) h K = K 1 h := dwp_size_of Try.sizeOf191
theorem rs191 {F : Fr} {S : Hp} : rval Try.prog F (sizeOf 191) S = some 1 := rval_size Try.sizeOf191
theorem ag191 {F : Fr} {h : Hp} {K : Bool → Hp → Prop} : dwp Try.prog F (isAgg 191) h K = K false h := dwp_agg_of Try.isAgg191
theorem ra191 {F : Fr} {S : Hp} : rval Try.prog F (isAgg 191) S = some false := rval_agg Try.isAgg191
theorem ze191 {F : Fr} {h : Hp} {K : Value → Hp → Prop} : dwp Try.prog F (zeroValue 191) h K = K Go.Value.nilFunc h := dwp_zero_of Try.zeroValue191
theorem rz191 {F : Fr} {S : Hp} : rval Try.prog F (zeroValue 191) S = some (Go.Value.nilFunc) := rval_zero Try.zeroValue191
theorem un192 {F : Fr} {h : Hp} {K : TypeDesc → Hp → Prop} : dwp Try.prog F (underlying 192) h K = K (Go.TypeDesc.func #[89] #[35] false) h := by rw [dwp_underlying, Try.underlying192]; rfl
theorem ru192 {F : Fr} {S : Hp} : rval Try.prog F (underlying 192) S = some (Go.TypeDesc.func #[89] #[35] false) := rval_un Try.underlying192
theorem sz192 {F : Fr} {h : Hp} {K : Nat → Hp → Prop} : dwp Try.prog F (sizeOf 192) h K = K 1 h := dwp_size_of Try.sizeOf192
theorem rs192 {F : Fr} {S : Hp} : rval Try.prog F (sizeOf 192) S = some 1 := rval_size Try.sizeOf192
theorem ag192 {F : Fr} {h : Hp} {K : Bool → Hp → Prop} : dwp Try.prog F (isAgg 192) h K = K false h := dwp_agg_of Try.isAgg192
theorem ra192 {F : Fr} {S : Hp} : rval Try.prog F (isAgg 192) S = some false := rval_agg Try.isAgg192
theorem ze192 {F : Fr} {h : Hp} {K : Value → Hp → Prop} : dwp Try.prog F (zeroValue 192) h K = K Go.Value.nilFunc h := dwp_zero_of Try.zeroValue192
theorem rz192 {F : Fr} {S : Hp} : rval Try.prog F (zeroValue 192) S = some (Go.Value.nilFunc) := rval_zero Try.zeroValue192
theorem un193 {F : Fr} {h : Hp} {K : TypeDesc → Hp → Prop} : dwp Try.prog F (underlying 193) h K = K (Go.TypeDesc.slice 102) h := by rw [dwp_underlying, Try.underlying193]; rfl
theorem ru193 {F : Fr} {S : Hp} : rval Try.prog F (underlying 193) S = some (Go.TypeDesc.slice 102) := rval_un Try.underlying193
theorem ix193 {F : Fr} {h : Hp} {a : Addr} {n c : Nat} {k : IntKind} {i : Int} {K : Value → Hp → Prop} (h1 : 0 ≤ i) (h2 : i < (n : Int)) : dwp Try.prog F (Instr.indexAt 193 (.slice (some a) n c) (.int k i)) h K = K (.pointer (some (a.add (i.toNat * 2)))) h := dwp_ixS Try.underlying193 Try.sizeOf102 h1 h2
theorem rx193 {F : Fr} {S : Hp} {a : Addr} {n c : Nat} {k : IntKind} {i : Int} (h1 : 0 ≤ i) (h2 : i < (n : Int)) : rval Try.prog F (Instr.indexAt 193 (.slice (some a) n c) (.int k i)) S = some (.pointer (some (a.add (i.toNat * 2)))) := rval_ixS Try.underlying193 Try.sizeOf102 h1 h2
theorem sz193 {F : Fr} {h : Hp} {K : Nat → Hp → Prop} : dwp Try.prog F (sizeOf 193) h K = K 1 h := dwp_size_of Try.sizeOf193
theorem rs193 {F : Fr} {S : Hp} : rval Try.prog F (sizeOf 193) S = some 1 := rval_size Try.sizeOf193
theorem ag193 {F : Fr} {h : Hp} {K : Bool → Hp → Prop} : dwp Try.prog F (isAgg 193) h K = K false h := dwp_agg_of Try.isAgg193
theorem ra193 {F : Fr} {S : Hp} : rval Try.prog F (isAgg 193) S = some false := rval_agg Try.isAgg193
theorem ze193 {F : Fr} {h : Hp} {K : Value → Hp → Prop} : dwp Try.prog F (zeroValue 193) h K = K (Go.Value.slice none 0 0) h := dwp_zero_of Try.zeroValue193
theorem rz193 {F : Fr} {S : Hp} : rval Try.prog F (zeroValue 193) S = some (Go.Value.slice none 0 0) := rval_zero Try.zeroValue193
theorem un194 {F : Fr} {h : Hp} {K : TypeDesc → Hp → Prop} : dwp Try.prog F (underlying 194) h K = K (Go.TypeDesc.func #[99] #[35] false) h := by rw [dwp_underlying, Try.underlying194]; rfl
theorem ru194 {F : Fr} {S : Hp} : rval Try.prog F (underlying 194) S = some (Go.TypeDesc.func #[99] #[35] false) := rval_un Try.underlying194
theorem sz194 {F : Fr} {h : Hp} {K : Nat → Hp → Prop} : dwp Try.prog F (sizeOf 194) h K = K 1 h := dwp_size_of Try.sizeOf194
theorem rs194 {F : Fr} {S : Hp} : rval Try.prog F (sizeOf 194) S = some 1 := rval_size Try.sizeOf194
theorem ag194 {F : Fr} {h : Hp} {K : Bool → Hp → Prop} : dwp Try.prog F (isAgg 194) h K = K false h := dwp_agg_of Try.isAgg194
theorem ra194 {F : Fr} {S : Hp} : rval Try.prog F (isAgg 194) S = some false := rval_agg Try.isAgg194
theorem ze194 {F : Fr} {h : Hp} {K : Value → Hp → Prop} : dwp Try.prog F (zeroValue 194) h K = K Go.Value.nilFunc h := dwp_zero_of Try.zeroValue194
theorem rz194 {F : Fr} {S : Hp} : rval Try.prog F (zeroValue 194) S = some (Go.Value.nilFunc) := rval_zero Try.zeroValue194
theorem un195 {F : Fr} {h : Hp} {K : TypeDesc → Hp → Prop} : dwp Try.prog F (underlying 195) h K = K (Go.TypeDesc.func #[102] #[4] false) h := by rw [dwp_underlying, Try.underlying195]; rfl
theorem ru195 {F : Fr} {S : Hp} : rval Try.prog F (underlying 195) S = some (Go.TypeDesc.func #[102] #[4] false) := rval_un Try.underlying195
theorem sz195 {F : Fr} {h : Hp} {K : Nat → Hp → Prop} : dwp Try.prog F (sizeOf 195) h K = K 1 h := dwp_size_of Try.sizeOf195
theorem rs195 {F : Fr} {S : Hp} : rval Try.prog F (sizeOf 195) S = some 1 := rval_size Try.sizeOf195
theorem ag195 {F : Fr} {h : Hp} {K : Bool → Hp → Prop} : dwp Try.prog F (isAgg 195) h K = K false h := dwp_agg_of Try.isAgg195
theorem ra195 {F : Fr} {S : Hp} : rval Try.prog F (isAgg 195) S = some false := rval_agg Try.isAgg195
theorem ze195 {F : Fr} {h : Hp} {K : Value → Hp → Prop} : dwp Try.prog F (zeroValue 195) h K = K Go.Value.nilFunc h := dwp_zero_of Try.zeroValue195
theorem rz195 {F : Fr} {S : Hp} : rval Try.prog F (zeroValue 195) S = some (Go.Value.nilFunc) := rval_zero Try.zeroValue195
theorem un196 {F : Fr} {h : Hp} {K : TypeDesc → Hp → Prop} : dwp Try.prog F (underlying 196) h K = K (Go.TypeDesc.func #[3] #[3, 35] false) h := by rw [dwp_underlying, Try.underlying196]; rfl
theorem ru196 {F : Fr} {S : Hp} : rval Try.prog F (underlying 196) S = some (Go.TypeDesc.func #[3] #[3, 35] false) := rval_un Try.underlying196
theorem sz196 {F : Fr} {h : Hp} {K : Nat → Hp → Prop} : dwp Try.prog F (sizeOf 196) h K = K 1 h := dwp_size_of Try.sizeOf196
theorem rs196 {F : Fr} {S : Hp} : rval Try.prog F (sizeOf 196) S = some 1 := rval_size Try.sizeOf196
theorem ag196 {F : Fr} {h : Hp} {K : Bool → Hp → Prop} : dwp Try.prog F (isAgg 196) h K = K false h := dwp_agg_of Try.isAgg196
theorem ra196 {F : Fr} {S : Hp} : rval Try.prog F (isAgg 196) S = some false := rval_agg Try.isAgg196
theorem ze196 {F : Fr} {h : Hp} {K : Value → Hp → Prop} : dwp Try.prog F (zeroValue 196) h K = K Go.Value.nilFunc h := dwp_zero_of Try.zeroValue196
theorem rz196 {F : Fr} {S : Hp} : rval Try.prog F (zeroValue 196) S = some (Go.Value.nilFunc) := rval_zero Try.zeroValue196
theorem un197 {F : Fr} {h : Hp} {K : TypeDesc → Hp → Prop} : dwp Try.prog F (underlying 197) h K = K (Go.TypeDesc.array 2 30) h := by rw [dwp_underlying, Try.underlying197]; rfl
theorem ru197 {F : Fr} {S : Hp} : rval Try.prog F (underlying 197) S = some (Go.TypeDesc.array 2 30) := rval_un Try.underlying197
theorem ix197 {F : Fr} {h : Hp} {a : Addr} {k : IntKind} {i : Int} {K : Value → Hp → Prop} (h1 : 0 ≤ i) (h2 : i < ((2 : Nat) : Int)) : dwp Try.prog F (Instr.indexAt 197 (.pointer (some a)) (.int k i)) h K = K (.pointer (some (a.add (i.toNat * 2)))) h := dwp_ixA Try.underlying197 Try.sizeOf30 h1 h2
theorem rx197 {F : Fr} {S : Hp} {a : Addr} {k : IntKind} {i : Int} (h1 : 0 ≤ i) (h2 : i < ((2 : Nat) : Int)) : rval Try.prog F (Instr.indexAt 197 (.pointer (some a)) (.int k i)) S = some (.pointer (some (a.add (i.toNat * 2)))) := rval_ixA Try.underlying197 Try.sizeOf30 h1 h2
theorem sz197 {F : Fr} {h : Hp} {K : Nat → Hp → Prop} : dwp Try.prog F (sizeOf 197) h K = K 4 h := dwp_size_of Try.sizeOf197
theorem rs197 {F : Fr} {S : Hp} : rval Try.prog F (sizeOf 197) S = some 4 := rval_size Try.sizeOf197
theorem ag197 {F : Fr} {h : Hp} {K : Bool → Hp → Prop} : dwp Try.prog F (isAgg 197) h K = K true h := dwp_agg_of Try.isAgg197
theorem ra197 {F : Fr} {S : Hp} : rval Try.prog F (isAgg 197) S = some true := rval_agg Try.isAgg197
theorem ze197 {F : Fr} {h : Hp} {K : Value → Hp → Prop} : dwp Try.prog F (zeroValue 197) h K = K (Go.Value.agg #[Go.Value.int Go.IntKind.i64 0, Go.Value.int Go.IntKind.i64 0, Go.Value.int Go.IntKind.i64 0, Go.Value.int Go.IntKind.i64 0]) h := dwp_zero_of Try.zeroValue197
theorem rz197 {F : Fr} {S : Hp} : rval Try.prog F (zeroValue 197) S = some (Go.Value.agg #[Go.Value.int Go.IntKind.i64 0, Go.Value.int Go.IntKind.i64 0, Go.Value.int Go.IntKind.i64 0, Go.Value.int Go.IntKind.i64 0]) := rval_zero Try.zeroValue197
theorem un198 {F : Fr} {h : Hp} {K : TypeDesc → Hp → Prop} : dwp Try.prog F (underlying 198) h K = K (Go.TypeDesc.func #[167, 170] #[3] false) h := by rw [dwp_underlying, Try.underlying198]; rfl
theorem ru198 {F : Fr} {S : Hp} : rval Try.prog F (underlying 198) S = some (Go.TypeDesc.func #[167, 170] #[3] false) := rval_un Try.underlying198
theorem sz198 {F : Fr} {h : Hp} {K : Nat → Hp → Prop} : dwp Try.prog F (sizeOf 198) h K = K 1 h := dwp_size_of Try.sizeOf198
theorem rs198 {F : Fr} {S : Hp} : rval Try.prog F (sizeOf 198) S = some 1 := rval_size Try.sizeOf198
theorem ag198 {F : Fr} {h : Hp} {K : Bool → Hp → Prop} : dwp Try.prog F (isAgg 198) h K = K false h := dwp_agg_of Try.isAgg198
theorem ra198 {F : Fr} {S : Hp} : rval Try.prog F (isAgg 198) S = some false := rval_agg Try.isAgg198
theorem ze198 {F : Fr} {h : Hp} {K : Value → Hp → Prop} : dwp Try.prog F (zeroValue 198) h K = K Go.Value.nilFunc h := dwp_zero_of Try.zeroValue198
theorem rz198 {F : Fr} {S : Hp} : rval Try.prog F (zeroValue 198) S = some (Go.Value.nilFunc) := rval_zero Try.zeroValue198
theorem un199 {F : Fr} {h : Hp} {K : TypeDesc → Hp → Prop} : dwp Try.prog F (underlying 199) h K = K (Go.TypeDesc.func #[3, 3] #[165] false) h := by rw [dwp_underlying, Try.underlying199]; rfl
theorem ru199 {F : Fr} {S : Hp} : rval Try.prog F (underlying 199) S = some (Go.TypeDesc.func #[3, 3] #[165] false) := rval_un Try.underlying199
theorem sz199 {F : Fr} {h : Hp} {K : Nat → Hp → Prop} : dwp Try.prog F (sizeOf 199) h K = K 1 h := dwp_size_of Try.sizeOf199
theorem rs199 {F : Fr} {S : Hp} : rval Try.prog F (sizeOf 199) S = some 1 := rval_size Try.sizeOf199
theorem ag199 {F : Fr} {h : Hp} {K : Bool → Hp → Prop} : dwp Try.prog F (isAgg 199) h K = K false h := dwp_agg_of Try.isAgg199
theorem ra199 {F : Fr} {S : Hp} : rval Try.prog F (isAgg 199) S = some false := rval_agg Try.isAgg199
theorem ze199 {F : Fr} {h : Hp} {K : Value → Hp → Prop} : dwp Try.prog F (zeroValue 199) h K = K Go.Value.nilFunc h := dwp_zero_of Try.zeroValue199
theorem rz199 {F : Fr} {S : Hp} : rval Try.prog F (zeroValue 199) S = some (Go.Value.nilFunc) := rval_zero Try.zeroValue199
theorem un200 {F : Fr} {h : Hp} {K : TypeDesc → Hp → Prop} : dwp Try.prog F (underlying 200) h K = K (Go.TypeDesc.func #[165, 165] #[165] false) h := by rw [dwp_underlying, Try.underlying200]; rfl
theorem ru200 {F : Fr} {S : Hp} : rval Try.prog F (underlying 200) S = some (Go.TypeDesc.func #[165, 165] #[165] false) := rval_un Try.underlying200
theorem sz200 {F : Fr} {h : Hp} {K : Nat → Hp → Prop} : dwp Try.prog F (sizeOf 200) h K = K 1 h := dwp_size_of Try.sizeOf200
theorem rs200 {F : Fr} {S : Hp} : rval Try.prog F (sizeOf 200) S = some 1 := rval_size Try.sizeOf200
theorem ag200 {F : Fr} {h : Hp} {K : Bool → Hp → Prop} : dwp Try.prog F (isAgg 200) h K = K false h := dwp_agg_of Try.isAgg200
theorem ra200 {F : Fr} {S : Hp} : rval Try.prog F (isAgg 200) S = some false := rval_agg Try.isAgg200
theorem ze200 {F : Fr} {h : Hp} {K : Value → Hp → Prop} : dwp Try.prog F (zeroValue 200) h K = K Go.Value.nilFunc h := dwp_zero_of Try.zeroValue200
theorem rz200 {F : Fr} {S : Hp} : rval Try.prog F (zeroValue 200) S = some (Go.Value.nilFunc) := rval_zero Try.zeroValue200
theorem un201 {F : Fr} {h : Hp} {K : TypeDesc → Hp → Prop} : dwp Try.prog F (underlying 201) h K = K (Go.TypeDesc.func #[30] #[3] false) h := by rw [dwp_underlying, Try.underlying201]; rfl
theorem ru201 {F : Fr} {S : Hp} : rval Try.prog F (underlying 201) S = some (Go.TypeDesc.func #[30] #[3] false) := rval_un Try.underlying201
theorem sz201 {F : Fr} {h : Hp} {K : Nat → Hp → Prop} : dwp Try.prog F (sizeOf 201) h K = K 1 h := dwp_size_of Try.sizeOf201
theorem rs201 {F : Fr} {S : Hp} : rval Try.prog F (sizeOf 201) S = some 1 := rval_size Try.sizeOf201
theorem ag201 {F : Fr} {h : Hp} {K : Bool → Hp → Prop} : dwp Try.prog F (isAgg 201) h K = K false h := dwp_agg_of Try.isAgg201
theorem ra201 {F : Fr} {S : Hp} : rval Try.prog F (isAgg 201) S = some false := rval_agg Try.isAgg201
theorem ze201 {F : Fr} {h : Hp} {K : Value → Hp → Prop} : dwp Try.prog F (zeroValue 201) h K = K Go.Value.nilFunc h := dwp_zero_of Try.zeroValue201
theorem rz201 {F : Fr} {S : Hp} : rval Try.prog F (zeroValue 201) S = some (Go.Value.nilFunc) := rval_zero Try.zeroValue201
theorem un202 {F : Fr} {h : Hp} {K : TypeDesc → Hp → Prop} : dwp Try.prog F (underlying 202) h K = K (Go.TypeDesc.func #[80, 177] #[3] false) h := by rw [dwp_underlying, Try.underlying202]; rfl
theorem ru202 {F : Fr} {S : Hp} : rval Try.prog F (underlying 202) S = some (Go.TypeDesc.func #[80, 177] #[3] false) := rval_un Try.underlying202
theorem sz202 {F : Fr} {h : Hp} {K : Nat → Hp → Prop} : dwp Try.prog F (sizeOf 202) h K = K 1 h := dwp_size_of Try.sizeOf202
theorem rs202 {F : Fr} {S : Hp} : rval Try.prog F (sizeOf 202) S = some 1 := rval_size Try.sizeOf202
theorem ag202 {F : Fr} {h : Hp} {K : Bool → Hp → Prop} : dwp Try.prog F (isAgg 202) h K = K false h := dwp_agg_of Try.isAgg202
theorem ra202 {F : Fr} {S : Hp} : rval Try.prog F (isAgg 202) S = some false := rval_agg Try.isAgg202
theorem ze202 {F : Fr} {h : Hp} {K : Value → Hp → Prop} : dwp Try.prog F (zeroValue 202) h K = K Go.Value.nilFunc h := dwp_zero_of Try.zeroValue202
theorem rz202 {F : Fr} {S : Hp} : rval Try.prog F (zeroValue 202) S = some (Go.Value.nilFunc) := rval_zero Try.zeroValue202
theorem un203 {F : Fr} {h : Hp} {K : TypeDesc → Hp → Prop} : dwp Try.prog F (underlying 203) h K = K (Go.TypeDesc.slice 148) h := by rw [dwp_underlying, Try.underlying203]; rfl
theorem ru203 {F : Fr} {S : Hp} : rval Try.prog F (underlying 203) S = some (Go.TypeDesc.slice 148) := rval_un Try.underlying203
theorem ix203 {F : Fr} {h : Hp} {a : Addr} {n c : Nat} {k : IntKind} {i : Int} {K : Value → Hp → Prop} (h1 : 0 ≤ i) (h2 : i < (n : Int)) : dwp Try.prog F (Instr.indexAt 203 (.slice (some a) n c) (.int k i)) h K = K (.pointer (some (a.add (i.toNat * 15)))) h := dwp_ixS Try.underlying203 Try.sizeOf148 h1 h2
theorem rx203 {F : Fr} {S : Hp} {a : Addr} {n c : Nat} {k : IntKind} {i : Int} (h1 : 0 ≤ i) (h2 : i < (n : Int)) : rval Try.prog F (Instr.indexAt 203 (.slice (some a) n c) (.int k i)) S = some (.pointer (some (a.add (i.toNat * 15)))) := rval_ixS Try.underlying203 Try.sizeOf148 h1 h2
theorem sz203 {F : Fr} {h : Hp} {K : Nat → Hp → Prop} : dwp Try.prog F (sizeOf 203) h K = K 1 h := dwp_size_of Try.sizeOf203
theorem rs203 {F : Fr} {S : Hp} : rval Try.prog F (sizeOf 203) S = some 1 := rval_size Try.sizeOf203
theorem ag203 {F : Fr} {h : Hp} {K : Bool → Hp → Prop} : dwp Try.prog F (isAgg 203) h K = K false h := dwp_agg_of Try.isAgg203
theorem ra203 {F : Fr} {S : Hp} : rval Try.prog F (isAgg 203) S = some false := rval_agg Try.isAgg203
theorem ze203 {F : Fr} {h : Hp} {K : Value → Hp → Prop} : dwp Try.prog F (zeroValue 203) h K = K (Go.Value.slice none 0 0) h := dwp_zero_of Try.zeroValue203
theorem rz203 {F : Fr} {S : Hp} : rval Try.prog F (zeroValue 203) S = some (Go.Value.slice none 0 0) := rval_zero Try.zeroValue203
theorem un204 {F : Fr} {h : Hp} {K : TypeDesc → Hp → Prop} : dwp Try.prog F (underlying 204) h K = K (Go.TypeDesc.func #[203, 205] #[4] false) h := by rw [dwp_underlying, Try.underlying204]; rfl
theorem ru204 {F : Fr} {S : Hp} : rval Try.prog F (underlying 204) S = some (Go.TypeDesc.func #[203, 205] #[4] false) := rval_un Try.underlying204
theorem sz204 {F : Fr} {h : Hp} {K : Nat → Hp → Prop} : dwp Try.prog F (sizeOf 204) h K = K 1 h := dwp_size_of Try.sizeOf204
theorem rs204 {F : Fr} {S : Hp} : rval Try.prog F (sizeOf 204) S = some 1 := rval_size Try.sizeOf204
theorem ag204 {F : Fr} {h : Hp} {K : Bool → Hp → Prop} : dwp Try.prog F (isAgg 204) h K = K false h := dwp_agg_of Try.isAgg204
theorem ra204 {F : Fr} {S : Hp} : rval Try.prog F (isAgg 204) S = some false := rval_agg Try.isAgg204
theorem ze204 {F : Fr} {h : Hp} {K : Value → Hp → Prop} : dwp Try.prog F (zeroValue 204) h K = K Go.Value.nilFunc h := dwp_zero_of Try.zeroValue204
theorem rz204 {F : Fr} {S : Hp} : rval Try.prog F (zeroValue 204) S = some (Go.Value.nilFunc) := rval_zero Try.zeroValue204
theorem un205 {F : Fr} {h : Hp} {K : TypeDesc → Hp → Prop} : dwp Try.prog F (underlying 205) h K = K (Go.TypeDesc.func #[148] #[4] false) h := by rw [dwp_underlying, Try.underlying205]; rfl
theorem ru205 {F : Fr} {S : Hp} : rval Try.prog F (underlying 205) S = some (Go.TypeDesc.func #[148] #[4] false) := rval_un Try.underlying205
theorem sz205 {F : Fr} {h : Hp} {K : Nat → Hp → Prop} : dwp Try.prog F (sizeOf 205) h K = K 1 h := dwp_size_of Try.sizeOf205
theorem rs205 {F : Fr} {S : Hp} : rval Try.prog F (sizeOf 205) S = some 1 := rval_size Try.sizeOf205
theorem ag205 {F : Fr} {h : Hp} {K : Bool → Hp → Prop} : dwp Try.prog F (isAgg 205) h K = K false h := dwp_agg_of Try.isAgg205
theorem ra205 {F : Fr} {S : Hp} : rval Try.prog F (isAgg 205) S = some false := rval_agg Try.isAgg205
theorem ze205 {F : Fr} {h : Hp} {K : Value → Hp → Prop} : dwp Try.prog F (zeroValue 205) h K = K Go.Value.nilFunc h := dwp_zero_of Try.zeroValue205
theorem rz205 {F : Fr} {S : Hp} : rval Try.prog F (zeroValue 205) S = some (Go.Value.nilFunc) := rval_zero Try.zeroValue205
theorem un206 {F : Fr} {h : Hp} {K : TypeDesc → Hp → Prop} : dwp Try.prog F (underlying 206) h K = K (Go.TypeDesc.func #[82] #[35] false) h := by rw [dwp_underlying, Try.underlying206]; rfl
theorem ru206 {F : Fr} {S : Hp} : rval Try.prog F (underlying 206) S = some (Go.TypeDesc.func #[82] #[35] false) := rval_un Try.underlying206
theorem sz206 {F : Fr} {h : Hp} {K : Nat → Hp → Prop} : dwp Try.prog F (sizeOf 206) h K = K 1 h := dwp_size_of Try.sizeOf206
theorem rs206 {F : Fr} {S : Hp} : rval Try.prog F (sizeOf 206) S = some 1 := rval_size Try.sizeOf206
theorem ag206 {F : Fr} {h : Hp} {K : Bool → Hp → Prop} : dwp Try.prog F (isAgg 206) h K = K false h := dwp_agg_of Try.isAgg206
theorem ra206 {F : Fr} {S : Hp} : rval Try.prog F (isAgg 206) S = some false := rval_agg Try.isAgg206
theorem ze206 {F : Fr} {h : Hp} {K : Value → Hp → Prop} : dwp Try.prog F (zeroValue 206) h K = K Go.Value.nilFunc h := dwp_zero_of Try.zeroValue206
theorem rz206 {F : Fr} {S : Hp} : rval Try.prog F (zeroValue 206) S = some (Go.Value.nilFunc) := rval_zero Try.zeroValue206
theorem un207 {F : Fr} {h : Hp} {K : TypeDesc → Hp → Prop} : dwp Try.prog F (underlying 207) h K = K (Go.TypeDesc.func #[159] #[35] false) h := by rw [dwp_underlying, Try.underlying207]; rfl
theorem ru207 {F : Fr} {S : Hp} : rval Try.prog F (underlying 207) S = some (Go.TypeDesc.func #[159] #[35] false) := rval_un Try.underlying207
theorem sz207 {F : Fr} {h : Hp} {K : Nat → Hp → Prop} : dwp Try.prog F (sizeOf 207) h K = K 1 h := dwp_size_of Try.sizeOf207
theorem rs207 {F : Fr} {S : Hp} : rval Try.prog F (sizeOf 207) S = some 1 := rval_size Try.sizeOf207
theorem ag207 {F : Fr} {h : Hp} {K : Bool → Hp → Prop} : dwp Try.prog F (isAgg 207) h K = K false h := dwp_agg_of Try.isAgg207
theorem ra207 {F : Fr} {S : Hp} : rval Try.prog F (isAgg 207) S = some false := rval_agg Try.isAgg207
theorem ze207 {F : Fr} {h : Hp} {K : Value → Hp → Prop} : dwp Try.prog F (zeroValue 207) h K = K Go.Value.nilFunc h := dwp_zero_of Try.zeroValue207
theorem rz207 {F : Fr} {S : Hp} : rval Try.prog F (zeroValue 207) S = some (Go.Value.nilFunc) := rval_zero Try.zeroValue207
theorem un208 {F : Fr} {h : Hp} {K : TypeDesc → Hp → Prop} : dwp Try.prog F (underlying 208) h K = K (Go.TypeDesc.func #[80, 3] #[4] false) h := by rw [dwp_underlying, Try.underlying208]; rfl
theorem ru208 {F : Fr} {S : Hp} : rval Try.prog F (underlying 208) S = some (Go.TypeDesc.func #[80, 3] #[4] false) := rval_un Try.underlying208
theorem sz208 {F : Fr} {h : Hp} {K : Nat → Hp → Prop} : dwp Try.prog F (sizeOf 208) h K = K 1 h := dwp_size_of Try.sizeOf208
theorem rs208 {F : Fr} {S : Hp} : rval Try.prog F (sizeOf 208) S = some 1 := rval_size Try.sizeOf208
theorem ag208 {F : Fr} {h : Hp} {K : Bool → Hp → Prop} : dwp Try.prog F (isAgg 208) h K = K false h := dwp_agg_of Try.isAgg208
theorem ra208 {F : Fr} {S : Hp} : rval Try.prog F (isAgg 208) S = some false := rval_agg Try.isAgg208
theorem ze208 {F : Fr} {h : Hp} {K : Value → Hp → Prop} : dwp Try.prog F (zeroValue 208) h K = K Go.Value.nilFunc h := dwp_zero_of Try.zeroValue208
theorem rz208 {F : Fr} {S : Hp} : rval Try.prog F (zeroValue 208) S = some (Go.Value.nilFunc) := rval_zero Try.zeroValue208
theorem un209 {F : Fr} {h : Hp} {K : TypeDesc → Hp → Prop} : dwp Try.prog F (underlying 209) h K = K (Go.TypeDesc.func #[97, 3] #[4] false) h := by rw [dwp_underlying, Try.underlying209]; rfl
theorem ru209 {F : Fr} {S : Hp} : rval Try.prog F (underlying 209) S = some (Go.TypeDesc.func #[97, 3] #[4] false) := rval_un Try.underlying209
theorem sz209 {F : Fr} {h : Hp} {K : Nat → Hp → Prop} : dwp Try.prog F (sizeOf 209) h K = K 1 h := dwp_size_of Try.sizeOf209
theorem rs209 {F : Fr} {S : Hp} : rval Try.prog F (sizeOf 209) S = some 1 := rval_size Try.sizeOf209
theorem ag209 {F : Fr} {h : Hp} {K : Bool → Hp → Prop} : dwp Try.prog F (isAgg 209) h K = K false h := dwp_agg_of Try.isAgg209
theorem ra209 {F : Fr} {S : Hp} : rval Try.prog F (isAgg 209) S = some false := rval_agg Try.isAgg209
theorem ze209 {F : Fr} {h : Hp} {K : Value → Hp → Prop} : dwp Try.prog F (zeroValue 209) h K = K Go.Value.nilFunc h := dwp_zero_of Try.zeroValue209
theorem rz209 {F : Fr} {S : Hp} : rval Try.prog F (zeroValue 209) S = some (Go.Value.nilFunc) := rval_zero Try.zeroValue209
theorem un210 {F : Fr} {h : Hp} {K : TypeDesc → Hp → Prop} : dwp Try.prog F (underlying 210) h K = K (Go.TypeDesc.array 2 97) h := by rw [dwp_underlying, Try.underlying210]; rfl
theorem ru210 {F : Fr} {S : Hp} : rval Try.prog F (underlying 210) S = some (Go.TypeDesc.array 2 97) := rval_un Try.underlying210
theorem ix210 {F : Fr} {h : Hp} {a : Addr} {k : IntKind} {i : Int} {K : Value → Hp → Prop} (h1 : 0 ≤ i) (h2 : i < ((2 : Nat) : Int)) : dwp Try.prog F (Instr.indexAt 210 (.pointer (some a)) (.int k i)) h K = K (.pointer (some (a.add (i.toNat * 1)))) h := dwp_ixA Try.underlying210 Try.sizeOf97 h1 h2
theorem rx210 {F : Fr} {S : Hp} {a : Addr} {k : IntKind} {i : Int} (h1 : 0 ≤ i) (h2 : i < ((2 : Nat) : Int)) : rval Try.prog F (Instr.indexAt 210 (.pointer (some a)) (.int k i)) S = some (.pointer (some (a.add (i.toNat * 1)))) := rval_ixA Try.underlying210 Try.sizeOf97 h1 h2
theorem sz210 {F : Fr} {h : Hp} {K : Nat → Hp → Prop} : dwp Try.prog F (sizeOf 210) h K = K 2 h := dwp_size_of Try.sizeOf210
theorem rs210 {F : Fr} {S : Hp} : rval Try.prog F (sizeOf 210) S = some 2 := rval_size Try.sizeOf210
theorem ag210 {F : Fr} {h : Hp} {K : Bool → Hp → Prop} : dwp Try.prog F (isAgg 210) h K = K true h := dwp_agg_of Try.isAgg210
theorem ra210 {F : Fr} {S : Hp} : rval Try.prog F (isAgg 210) S = some true := rval_agg Try.isAgg210
theorem ze210 {F : Fr} {h : Hp} {K : Value → Hp → Prop} : dwp Try.prog F (zeroValue 210) h K = K (Go.Value.agg #[Go.Value.slice none 0 0, Go.Value.slice none 0 0]) h := dwp_zero_of Try.zeroValue210
theorem rz210 {F : Fr} {S : Hp} : rval Try.prog F (zeroValue 210) S = some (Go.Value.agg #[Go.Value.slice none 0 0, Go.Value.slice none 0 0]) := rval_zero Try.zeroValue210
theorem un211 {F : Fr} {h : Hp} {K : TypeDesc → Hp → Prop} : dwp Try.prog F (underlying 211) h K = K (Go.TypeDesc.func #[97, 212] #[4] false) h := by rw [dwp_underlying, Try.underlying211]; rfl
theorem ru211 {F : Fr} {S : Hp} : rval Try.prog F (underlying 211) S = some (Go.TypeDesc.func #[97, 212] #[4] false) := rval_un Try.underlying211
theorem sz211 {F : Fr} {h : Hp} {K : Nat → Hp → Prop} : dwp Try.prog F (sizeOf 211) h K = K 1 h := dwp_size_of Try.sizeOf211
theorem rs211 {F : Fr} {S : Hp} : rval Try.prog F (sizeOf 211) S = some 1 := rval_size Try.sizeOf211
theorem ag211 {F : Fr} {h : Hp} {K : Bool → Hp → Prop} : dwp Try.prog F (isAgg 211) h K = K false h := dwp_agg_of Try.isAgg211
theorem ra211 {F : Fr} {S : Hp} : rval Try.prog F (isAgg 211) S = some false := rval_agg Try.isAgg211
theorem ze211 {F : Fr} {h : Hp} {K : Value → Hp → Prop} : dwp Try.prog F (zeroValue 211) h K = K Go.Value.nilFunc h := dwp_zero_of Try.zeroValue211
theorem rz211 {F : Fr} {S : Hp} : rval Try.prog F (zeroValue 211) S = some (Go.Value.nilFunc) := rval_zero Try.zeroValue211
theorem un212 {F : Fr} {h : Hp} {K : TypeDesc → Hp → Prop} : dwp Try.prog F (underlying 212) h K = K (Go.TypeDesc.func #[80] #[4] false) h := by rw [dwp_underlying, Try.underlying212]; rfl
theorem ru212 {F : Fr} {S : Hp} : rval Try.prog F (underlying 212) S = some (Go.TypeDesc.func #[80] #[4] false) := rval_un Try.underlying212
theorem sz212 {F : Fr} {h : Hp} {K : Nat → Hp → Prop} : dwp Try.prog F (sizeOf 212) h K = K 1 h := dwp_size_of Try.sizeOf212
theorem rs212 {F : Fr} {S : Hp} : rval Try.prog F (sizeOf 212) S = some 1 := rval_size Try.sizeOf212
theorem ag212 {F : Fr} {h : Hp} {K : Bool → Hp → Prop} : dwp Try.prog F (isAgg 212) h K = K false h := dwp_agg_of Try.isAgg212
theorem ra212 {F : Fr} {S : Hp} : rval Try.prog F (isAgg 212) S = some false := rval_agg Try.isAgg212
theorem ze212 {F : Fr} {h : Hp} {K : Value → Hp → Prop} : dwp Try.prog F (zeroValue 212) h K = K Go.Value.nilFunc h := dwp_zero_of Try.zeroValue212
theorem rz212 {F : Fr} {S : Hp} : rval Try.prog F (zeroValue 212) S = some (Go.Value.nilFunc) := rval_zero Try.zeroValue212
theorem un213 {F : Fr} {h : Hp} {K : TypeDesc → Hp → Prop} : dwp Try.prog F (underlying 213) h K = K (Go.TypeDesc.func #[97] #[80] true) h := by rw [dwp_underlying, Try.underlying213]; rfl
theorem ru213 {F : Fr} {S : Hp} : rval Try.prog F (underlying 213) S = some (Go.TypeDesc.func #[97] #[80] true) := rval_un Try.underlying213
theorem sz213 {F : Fr} {h : Hp} {K : Nat → Hp → Prop} : dwp Try.prog F (sizeOf 213) h K = K 1 h := dwp_size_of Try.sizeOf213
theorem rs213 {F : Fr} {S : Hp} : rval Try.prog F (sizeOf 213) S = some 1 := rval_size Try.sizeOf213
theorem ag213 {F : Fr} {h : Hp} {K : Bool → Hp → Prop} : dwp Try.prog F (isAgg 213) h K = K false h := dwp_agg_of Try.isAgg213
theorem ra213 {F : Fr} {S : Hp} : rval Try.prog F (isAgg 213) S = some false := rval_agg Try.isAgg213
theorem ze213 {F : Fr} {h : Hp} {K : Value → Hp → Prop} : dwp Try.prog F (zeroValue 213) h K = K Go.Value.nilFunc h := dwp_zero_of Try.zeroValue213
theorem rz213 {F : Fr} {S : Hp} : rval Try.prog F (zeroValue 213) S = some (Go.Value.nilFunc) := rval_zero Try.zeroValue213
theorem un214 {F : Fr} {h : Hp} {K : TypeDesc → Hp → Prop} : dwp Try.prog F (underlying 214) h K = K (Go.TypeDesc.func #[203, 205] #[3] false) h := by rw [dwp_underlying, Try.underlying214]; rfl
theorem ru214 {F : Fr} {S : Hp} : rval Try.prog F (underlying 214) S = some (Go.TypeDesc.func #[203, 205] #[3] false) := rval_un Try.underlying214
theorem sz214 {F : Fr} {h : Hp} {K : Nat → Hp → Prop} : dwp Try.prog F (sizeOf 214) h K = K 1 h := dwp_size_of Try.sizeOf214
theorem rs214 {F : Fr} {S : Hp} : rval Try.prog F (sizeOf 214) S = some 1 := rval_size Try.sizeOf214
theorem ag214 {F : Fr} {h : Hp} {K : Bool → Hp → Prop} : dwp Try.prog F (isAgg 214) h K = K false h := dwp_agg_of Try.isAgg214
theorem ra214 {F : Fr} {S : Hp} : rval Try.prog F (isAgg 214) S = some false := rval_agg Try.isAgg214
theorem ze214 {F : Fr} {h : Hp} {K : Value → Hp → Prop} : dwp Try.prog F (zeroValue 214) h K = K Go.Value.nilFunc h := dwp_zero_of Try.zeroValue214
theorem rz214 {F : Fr} {S : Hp} : rval Try.prog F (zeroValue 214) S = some (Go.Value.nilFunc) := rval_zero Try.zeroValue214
theorem un215 {F : Fr} {h : Hp} {K : TypeDesc → Hp → Prop} : dwp Try.prog F (underlying 215) h K = K (Go.TypeDesc.func #[3] #[30, 35] false) h := by rw [dwp_underlying, Try.underlying215]; rfl
theorem ru215 {F : Fr} {S : Hp} : rval Try.prog F (underlying 215) S = some (Go.TypeDesc.func #[3] #[30, 35] false) := rval_un Try.underlying215
theorem sz215 {F : Fr} {h : Hp} {K : Nat → Hp → Prop} : dwp Try.prog F (sizeOf 215) h K = K 1 h := dwp_size_of Try.sizeOf215
theorem rs215 {F : Fr} {S : Hp} : rval Try.prog F (sizeOf 215) S = some 1 := rval_size Try.sizeOf215
theorem ag215 {F : Fr} {h : Hp} {K : Bool → Hp → Prop} : dwp Try.prog F (isAgg 215) h K = K false h := dwp_agg_of Try.isAgg215
theorem ra215 {F : Fr} {S : Hp} : rval Try.prog F (isAgg 215) S = some false := rval_agg Try.isAgg215
theorem ze215 {F : Fr} {h : Hp} {K : Value → Hp → Prop} : dwp Try.prog F (zeroValue 215) h K = K Go.Value.nilFunc h := dwp_zero_of Try.zeroValue215
theorem rz215 {F : Fr} {S : Hp} : rval Try.prog F (zeroValue 215) S = some (Go.Value.nilFunc) := rval_zero Try.zeroValue215
theorem un216 {F : Fr} {h : Hp} {K : TypeDesc → Hp → Prop} : dwp Try.prog F (underlying 216) h K = K (Go.TypeDesc.func #[3, 30] #[] false) h := by rw [dwp_underlying, Try.underlying216]; rfl
theorem ru216 {F : Fr} {S : Hp} : rval Try.prog F (underlying 216) S = some (Go.TypeDesc.func #[3, 30] #[] false) := rval_un Try.underlying216
theorem sz216 {F : Fr} {h : Hp} {K : Nat → Hp → Prop} : dwp Try.prog F (sizeOf 216) h K = K 1 h := dwp_size_of Try.sizeOf216
theorem rs216 {F : Fr} {S : Hp} : rval Try.prog F (sizeOf 216) S = some 1 := rval_size Try.sizeOf216
theorem ag216 {F : Fr} {h : Hp} {K : Bool → Hp → Prop} : dwp Try.prog F (isAgg 216) h K = K false h := dwp_agg_of Try.isAgg216
theorem ra216 {F : Fr} {S : Hp} : rval Try.prog F (isAgg 216) S = some false := rval_agg Try.isAgg216
theorem ze216 {F : Fr} {h : Hp} {K : Value → Hp → Prop} : dwp Try.prog F (zeroValue 216) h K = K Go.Value.nilFunc h := dwp_zero_of Try.zeroValue216
theorem rz216 {F : Fr} {S : Hp} : rval Try.prog F (zeroValue 216) S = some (Go.Value.nilFunc) := rval_zero Try.zeroValue216
theorem un217 {F : Fr} {h : Hp} {K : TypeDesc → Hp → Prop} : dwp Try.prog F (underlying 217) h K = K (Go.TypeDesc.func #[97, 212] #[3] false) h := by rw [dwp_underlying, Try.underlying217]; rfl
theorem ru217 {F : Fr} {S : Hp} : rval Try.prog F (underlying 217) S = some (Go.TypeDesc.func #[97, 212] #[3] false) := rval_un Try.underlying217
theorem sz217 {F : Fr} {h : Hp} {K : Nat → Hp → Prop} : dwp Try.prog F (sizeOf 217) h K = K 1 h := dwp_size_of Try.sizeOf217
theorem rs217 {F : Fr} {S : Hp} : rval Try.prog F (sizeOf 217) S = some 1 := rval_size Try.sizeOf217
theorem ag217 {F : Fr} {h : Hp} {K : Bool → Hp → Prop} : dwp Try.prog F (isAgg 217) h K = K false h := dwp_agg_of Try.isAgg217
theorem ra217 {F : Fr} {S : Hp} : rval Try.prog F (isAgg 217) S = some false := rval_agg Try.isAgg217
theorem ze217 {F : Fr} {h : Hp} {K : Value → Hp → Prop} : dwp Try.prog F (zeroValue 217) h K = K Go.Value.nilFunc h := dwp_zero_of Try.zeroValue217
theorem rz217 {F : Fr} {S : Hp} : rval Try.prog F (zeroValue 217) S = some (Go.Value.nilFunc) := rval_zero Try.zeroValue217
theorem un218 {F : Fr} {h : Hp} {K : TypeDesc → Hp → Prop} : dwp Try.prog F (underlying 218) h K = K (Go.TypeDesc.func #[80, 3] #[80] false) h := by rw [dwp_underlying, Try.underlying218]; rfl
theorem ru218 {F : Fr} {S : Hp} : rval Try.prog F (underlying 218) S = some (Go.TypeDesc.func #[80, 3] #[80] false) := rval_un Try.underlying218
theorem sz218 {F : Fr} {h : Hp} {K : Nat → Hp → Prop} : dwp Try.prog F (sizeOf 218) h K = K 1 h := dwp_size_of Try.sizeOf218
theorem rs218 {F : Fr} {S : Hp} : rval Try.prog F (sizeOf 218) S = some 1 := rval_size Try.sizeOf218
theorem ag218 {F : Fr} {h : Hp} {K : Bool → Hp → Prop} : dwp Try.prog F (isAgg 218) h K = K false h := dwp_agg_of Try.isAgg218
theorem ra218 {F : Fr} {S : Hp} : rval Try.prog F (isAgg 218) S = some false := rval_agg Try.isAgg218
theorem ze218 {F : Fr} {h : Hp} {K : Value → Hp → Prop} : dwp Try.prog F (zeroValue 218) h K = K Go.Value.nilFunc h := dwp_zero_of Try.zeroValue218
theorem rz218 {F : Fr} {S : Hp} : rval Try.prog F (zeroValue 218) S = some (Go.Value.nilFunc) := rval_zero Try.zeroValue218
theorem un219 {F : Fr} {h : Hp} {K : TypeDesc → Hp → Prop} : dwp Try.prog F (underlying 219) h K = K (Go.TypeDesc.func #[3] #[179] false) h := by rw [dwp_underlying, Try.underlying219]; rfl
theorem ru219 {F : Fr} {S : Hp} : rval Try.prog F (underlying 219) S = some (Go.TypeDesc.func #[3] #[179] false) := rval_un Try.underlying219
theorem sz219 {F : Fr} {h : Hp} {K : Nat → Hp → Prop} : dwp Try.prog F (sizeOf 219) h K = K 1 h := dwp_size_of Try.sizeOf219
theorem rs219 {F : Fr} {S : Hp} : rval Try.prog F (sizeOf 219) S = some 1 := rval_size Try.sizeOf219
theorem ag219 {F : Fr} {h : Hp} {K : Bool → Hp → Prop} : dwp Try.prog F (isAgg 219) h K = K false h := dwp_agg_of Try.isAgg219
theorem ra219 {F : Fr} {S : Hp} : rval Try.prog F (isAgg 219) S = some false := rval_agg Try.isAgg219
theorem ze219 {F : Fr} {h : Hp} {K : Value → Hp → Prop} : dwp Try.prog F (zeroValue 219) h K = K Go.Value.nilFunc h := dwp_zero_of Try.zeroValue219
theorem rz219 {F : Fr} {S : Hp} : rval Try.prog F (zeroValue 219) S = some (Go.Value.nilFunc) := rval_zero Try.zeroValue219
theorem un220 {F : Fr} {h : Hp} {K : TypeDesc → Hp → Prop} : dwp Try.prog F (underlying 220) h K = K (Go.TypeDesc.func #[] #[9] false) h := by rw [dwp_underlying, Try.underlying220]; rfl
theorem ru220 {F : Fr} {S : Hp} : rval Try.prog F (underlying 220) S = some (Go.TypeDesc.func #[] #[9] false) := rval_un Try.underlying220
theorem sz220 {F : Fr} {h : Hp} {K : Nat → Hp → Prop} : dwp Try.prog F (sizeOf 220) h K = K 1 h := dwp_size_of Try.sizeOf220
theorem rs220 {F : Fr} {S : Hp} : rval Try.prog F (sizeOf 220) S = some 1 := rval_size Try.sizeOf220
theorem ag220 {F : Fr} {h : Hp} {K : Bool → Hp → Prop} : dwp Try.prog F (isAgg 220) h K = K false h := dwp_agg_of Try.isAgg220
theorem ra220 {F : Fr} {S : Hp} : rval Try.prog F (isAgg 220) S = some false := rval_agg Try.isAgg220
theorem ze220 {F : Fr} {h : Hp} {K : Value → Hp → Prop} : dwp Try.prog F (zeroValue 220) h K = K Go.Value.nilFunc h := dwp_zero_of Try.zeroValue220
theorem rz220 {F : Fr} {S : Hp} : rval Try.prog F (zeroValue 220) S = some (Go.Value.nilFunc) := rval_zero Try.zeroValue220
theorem un221 {F : Fr} {h : Hp} {K : TypeDesc → Hp → Prop} : dwp Try.prog F (underlying 221) h K = K (Go.TypeDesc.struct #[{ name := "_interface", type := 17, offset := 0, embedded := false, tag := "", pkgPath := "runtime", byteOffset := 0 }, { name := "concrete", type := 17, offset := 1, embedded := false, tag := "", pkgPath := "runtime", byteOffset := 8 }, { name := "asserted", type := 17, offset := 2, embedded := false, tag := "", pkgPath := "runtime", byteOffset := 16 }, { name := "missingMethod", type := 9, offset := 3, embedded := false, tag := "", pkgPath := "runtime", byteOffset := 24 }]) h := by rw [dwp_underlying, Try.underlying221]; rfl
theorem ru221 {F : Fr} {S : Hp} : rval Try.prog F (underlying 221) S = some (Go.TypeDesc.struct #[{ name := "_interface", type := 17, offset := 0, embedded := false, tag := "", pkgPath := "runtime", byteOffset := 0 }, { name := "concrete", type := 17, offset := 1, embedded := false, tag := "", pkgPath := "runtime", byteOffset := 8 }, { name := "asserted", type := 17, offset := 2, embedded := false, tag := "", pkgPath := "runtime", byteOffset := 16 }, { name := "missingMethod", type := 9, offset := 3, embedded := false, tag := "", pkgPath := "runtime", byteOffset := 24 }]) := rval_un Try.underlying221
theorem sz221 {F : Fr} {h : Hp} {K : Nat → Hp → Prop} : dwp Try.prog F (sizeOf 221) h K = K 4 h := dwp_size_of Try.sizeOf221
theorem rs221 {F : Fr} {S : Hp} : rval Try.prog F (sizeOf 221) S = some 4 := rval_size Try.sizeOf221
theorem ag221 {F : Fr} {h : Hp} {K : Bool → Hp → Prop} : dwp Try.prog F (isAgg 221) h K = K true h := dwp_agg_of Try.isAgg221
theorem ra221 {F : Fr} {S : Hp} : rval Try.prog F (isAgg 221) S = some true := rval_agg Try.isAgg221
theorem ze221 {F : Fr} {h : Hp} {K : Value → Hp → Prop} : dwp Try.prog F (zeroValue 221) h K = K (Go.Value.agg #[Go.Value.pointer none, Go.Value.pointer none, Go.Value.pointer none, Go.Value.string { data := #[] }]) h := dwp_zero_of Try.zeroValue221
theorem rz221 {F : Fr} {S : Hp} : rval Try.prog F (zeroValue 221) S = some (Go.Value.agg #[Go.Value.pointer none, Go.Value.pointer none, Go.Value.pointer none, Go.Value.string { data := #[] }]) := rval_zero Try.zeroValue221
theorem un222 {F : Fr} {h : Hp} {K : TypeDesc → Hp → Prop} : dwp Try.prog F (underlying 222) h K = K (Go.TypeDesc.struct #[{ name := "_interface", type := 17, offset := 0, embedded := false, tag := "", pkgPath := "runtime", byteOffset := 0 }, { name := "concrete", type := 17, offset := 1, embedded := false, tag := "", pkgPath := "runtime", byteOffset := 8 }, { name := "asserted", type := 17, offset := 2, embedded := false, tag := "", pkgPath := "runtime", byteOffset := 16 }, { name := "missingMethod", type := 9, offset := 3, embedded := false, tag := "", pkgPath := "runtime", byteOffset := 24 }]) h := by rw [dwp_underlying, Try.underlying222]; rfl
theorem ru222 {F : Fr} {S : Hp} : rval Try.prog F (underlying 222) S = some (Go.TypeDesc.struct #[{ name := "_interface", type := 17, offset := 0, embedded := false, tag := "", pkgPath := "runtime", byteOffset := 0 }, { name := "concrete", type := 17, offset := 1, embedded := false, tag := "", pkgPath := "runtime", byteOffset := 8 }, { name := "asserted", type := 17, offset := 2, embedded := false, tag := "", pkgPath := "runtime", byteOffset := 16 }, { name := "missingMethod", type := 9, offset := 3, embedded := false, tag := "", pkgPath := "runtime", byteOffset := 24 }]) := rval_un Try.underlying222
theorem sz222 {F : Fr} {h : Hp} {K : Nat → Hp → Prop} : dwp Try.prog F (sizeOf 222) h K = K 4 h := dwp_size_of Try.sizeOf222
theorem rs222 {F : Fr} {S : Hp} : rval Try.prog F (sizeOf 222) S = some 4 := rval_size Try.sizeOf222
theorem ag222 {F : Fr} {h : Hp} {K : Bool → Hp → Prop} : dwp Try.prog F (isAgg 222) h K = K true h := dwp_agg_of Try.isAgg222
theorem ra222 {F : Fr} {S : Hp} : rval Try.prog F (isAgg 222) S = some true := rval_agg Try.isAgg222
theorem ze222 {F : Fr} {h : Hp} {K : Value → Hp → Prop} : dwp Try.prog F (zeroValue 222) h K = K (Go.Value.agg #[Go.Value.pointer none, Go.Value.pointer none, Go.Value.pointer none, Go.Value.string { data := #[] }]) h := dwp_zero_of Try.zeroValue222
theorem rz222 {F : Fr} {S : Hp} : rval Try.prog F (zeroValue 222) S = some (Go.Value.agg #[Go.Value.pointer none, Go.Value.pointer none, Go.Value.pointer none, Go.Value.string { data := #[] }]) := rval_zero Try.zeroValue222
theorem un223 {F : Fr} {h : Hp} {K : TypeDesc → Hp → Prop} : dwp Try.prog F (underlying 223) h K = K (Go.TypeDesc.array 0 16) h := by rw [dwp_underlying, Try.underlying223]; rfl
theorem ru223 {F : Fr} {S : Hp} : rval Try.prog F (underlying 223) S = some (Go.TypeDesc.array 0 16) := rval_un Try.underlying223
theorem ix223 {F : Fr} {h : Hp} {a : Addr} {k : IntKind} {i : Int} {K : Value → Hp → Prop} (h1 : 0 ≤ i) (h2 : i < ((0 : Nat) : Int)) : dwp Try.prog F (Instr.indexAt 223 (.pointer (some a)) (.int k i)) h K = K (.pointer (some (a.add (i.toNat * 1)))) h := dwp_ixA Try.underlying223 Try.sizeOf16 h1 h2
theorem rx223 {F : Fr} {S : Hp} {a : Addr} {k : IntKind} {i : Int} (h1 : 0 ≤ i) (h2 : i < ((0 : Nat) : Int)) : rval Try.prog F (Instr.indexAt 223 (.pointer (some a)) (.int k i)) S = some (.pointer (some (a.add (i.toNat * 1)))) := rval_ixA Try.underlying223 Try.sizeOf16 h1 h2
theorem sz223 {F : Fr} {h : Hp} {K : Nat → Hp → Prop} : dwp Try.prog F (sizeOf 223) h K = K 0 h := dwp_size_of Try.sizeOf223
theorem rs223 {F : Fr} {S : Hp} : rval Try.prog F (sizeOf 223) S = some 0 := rval_size Try.sizeOf223
theorem ag223 {F : Fr} {h : Hp} {K : Bool → Hp → Prop} : dwp Try.prog F (isAgg 223) h K = K true h := dwp_agg_of Try.isAgg223
theorem ra223 {F : Fr} {S : Hp} : rval Try.prog F (isAgg 223) S = some true := rval_agg Try.isAgg223
theorem ze223 {F : Fr} {h : Hp} {K : Value → Hp → Prop} : dwp Try.prog F (zeroValue 223) h K = K (Go.Value.agg #[]) h := dwp_zero_of Try.zeroValue223
theorem rz223 {F : Fr} {S : Hp} : rval Try.prog F (zeroValue 223) S = some (Go.Value.agg #[]) := rval_zero Try.zeroValue223
theorem un224 {F : Fr} {h : Hp} {K : TypeDesc → Hp → Prop} : dwp Try.prog F (underlying 224) h K = K (Go.TypeDesc.struct #[{ name := "_", type := 223, offset := 0, embedded := false, tag := "", pkgPath := "runtime", byteOffset := 0 }]) h := by rw [dwp_underlying, Try.underlying224]; rfl
theorem ru224 {F : Fr} {S : Hp} : rval Try.prog F (underlying 224) S = some (Go.TypeDesc.struct #[{ name := "_", type := 223, offset := 0, embedded := false, tag := "", pkgPath := "runtime", byteOffset := 0 }]) := rval_un Try.underlying224
theorem sz224 {F : Fr} {h : Hp} {K : Nat → Hp → Prop} : dwp Try.prog F (sizeOf 224) h K = K 0 h := dwp_size_of Try.sizeOf224
theorem rs224 {F : Fr} {S : Hp} : rval Try.prog F (sizeOf 224) S = some 0 := rval_size Try.sizeOf224
theorem ag224 {F : Fr} {h : Hp} {K : Bool → Hp → Prop} : dwp Try.prog F (isAgg 224) h K = K true h := dwp_agg_of Try.isAgg224
theorem ra224 {F : Fr} {S : Hp} : rval Try.prog F (isAgg 224) S = some true := rval_agg Try.isAgg224
theorem ze224 {F : Fr} {h : Hp} {K : Value → Hp → Prop} : dwp Try.prog F (zeroValue 224) h K = K (Go.Value.agg #[]) h := dwp_zero_of Try.zeroValue224
theorem rz224 {F : Fr} {S : Hp} : rval Try.prog F (zeroValue 224) S = some (Go.Value.agg #[]) := rval_zero Try.zeroValue224
theorem un225 {F : Fr} {h : Hp} {K : TypeDesc → Hp → Prop} : dwp Try.prog F (underlying 225) h K = K (Go.TypeDesc.struct #[{ name := "_", type := 223, offset := 0, embedded := false, tag := "", pkgPath := "runtime", byteOffset := 0 }]) h := by rw [dwp_underlying, Try.underlying225]; rfl
theorem ru225 {F : Fr} {S : Hp} : rval Try.prog F (underlying 225) S = some (Go.TypeDesc.struct #[{ name := "_", type := 223, offset := 0, embedded := false, tag := "", pkgPath := "runtime", byteOffset := 0 }]) := rval_un Try.underlying225
theorem sz225 {F : Fr} {h : Hp} {K : Nat → Hp → Prop} : dwp Try.prog F (sizeOf 225) h K = K 0 h := dwp_size_of Try.sizeOf225
theorem rs225 {F : Fr} {S : Hp} : rval Try.prog F (sizeOf 225) S = some 0 := rval_size Try.sizeOf225
theorem ag225 {F : Fr} {h : Hp} {K : Bool → Hp → Prop} : dwp Try.prog F (isAgg 225) h K = K true h := dwp_agg_of Try.isAgg225
theorem ra225 {F : Fr} {S : Hp} : rval Try.prog F (isAgg 225) S = some true := rval_agg Try.isAgg225
theorem ze225 {F : Fr} {h : Hp} {K : Value → Hp → Prop} : dwp Try.prog F (zeroValue 225) h K = K (Go.Value.agg #[]) h := dwp_zero_of Try.zeroValue225
theorem rz225 {F : Fr} {S : Hp} : rval Try.prog F (zeroValue 225) S = some (Go.Value.agg #[]) := rval_zero Try.zeroValue225
theorem un226 {F : Fr} {h : Hp} {K : TypeDesc → Hp → Prop} : dwp Try.prog F (underlying 226) h K = K (Go.TypeDesc.int Go.IntKind.u32) h := by rw [dwp_underlying, Try.underlying226]; rfl
theorem ru226 {F : Fr} {S : Hp} : rval Try.prog F (underlying 226) S = some (Go.TypeDesc.int Go.IntKind.u32) := rval_un Try.underlying226
theorem sz226 {F : Fr} {h : Hp} {K : Nat → Hp → Prop} : dwp Try.prog F (sizeOf 226) h K = K 1 h := dwp_size_of Try.sizeOf226
theorem rs226 {F : Fr} {S : Hp} : rval Try.prog F (sizeOf 226) S = some 1 := rval_size Try.sizeOf226
theorem ag226 {F : Fr} {h : Hp} {K : Bool → Hp → Prop} : dwp Try.prog F (isAgg 226) h K = K false h := dwp_agg_of Try.isAgg226
theorem ra226 {F : Fr} {S : Hp} : rval Try.prog F (isAgg 226) S = some false := rval_agg Try.isAgg226
theorem ze226 {F : Fr} {h : Hp} {K : Value → Hp → Prop} : dwp Try.prog F (zeroValue 226) h K = K (Go.Value.int Go.IntKind.u32 0) h := dwp_zero_of Try.zeroValue226
theorem rz226 {F : Fr} {S : Hp} : rval Try.prog F (zeroValue 226) S = some (Go.Value.int Go.IntKind.u32 0) := rval_zero Try.zeroValue226
theorem un227 {F : Fr} {h : Hp} {K : TypeDesc → Hp → Prop} : dwp Try.prog F (underlying 227) h K = K (Go.TypeDesc.int Go.IntKind.u8) h := by rw [dwp_underlying, Try.underlying227]; rfl
theorem ru227 {F : Fr} {S : Hp} : rval Try.prog F (underlying 227) S = some (Go.TypeDesc.int Go.IntKind.u8) := rval_un Try.underlying227
theorem sz227 {F : Fr} {h : Hp} {K : Nat → Hp → Prop} : dwp Try.prog F (sizeOf 227) h K = K 1 h := dwp_size_of Try.sizeOf227
theorem rs227 {F : Fr} {S : Hp} : rval Try.prog F (sizeOf 227) S = some 1 := rval_size Try.sizeOf227
theorem ag227 {F : Fr} {h : Hp} {K : Bool → Hp → Prop} : dwp Try.prog F (isAgg 227) h K = K false h := dwp_agg_of Try.isAgg227
theorem ra227 {F : Fr} {S : Hp} : rval Try.prog F (isAgg 227) S = some false := rval_agg Try.isAgg227
theorem ze227 {F : Fr} {h : Hp} {K : Value → Hp → Prop} : dwp Try.prog F (zeroValue 227) h K = K (Go.Value.int Go.IntKind.u8 0) h := dwp_zero_of Try.zeroValue227
theorem rz227 {F : Fr} {S : Hp} : rval Try.prog F (zeroValue 227) S = some (Go.Value.int Go.IntKind.u8 0) := rval_zero Try.zeroValue227
theorem un228 {F : Fr} {h : Hp} {K : TypeDesc → Hp → Prop} : dwp Try.prog F (underlying 228) h K = K (Go.TypeDesc.int Go.IntKind.u8) h := by rw [dwp_underlying, Try.underlying228]; rfl
theorem ru228 {F : Fr} {S : Hp} : rval Try.prog F (underlying 228) S = some (Go.TypeDesc.int Go.IntKind.u8) := rval_un Try.underlying228
theorem sz228 {F : Fr} {h : Hp} {K : Nat → Hp → Prop} : dwp Try.prog F (sizeOf 228) h K = K 1 h := dwp_size_of Try.sizeOf228
theorem rs228 {F : Fr} {S : Hp} : rval Try.prog F (sizeOf 228) S = some 1 := rval_size Try.sizeOf228
theorem ag228 {F : Fr} {h : Hp} {K : Bool → Hp → Prop} : dwp Try.prog F (isAgg 228) h K = K false h := dwp_agg_of Try.isAgg228
theorem ra228 {F : Fr} {S : Hp} : rval Try.prog F (isAgg 228) S = some false := rval_agg Try.isAgg228
theorem ze228 {F : Fr} {h : Hp} {K : Value → Hp → Prop} : dwp Try.prog F (zeroValue 228) h K = K (Go.Value.int Go.IntKind.u8 0) h := dwp_zero_of Try.zeroValue228
theorem rz228 {F : Fr} {S : Hp} : rval Try.prog F (zeroValue 228) S = some (Go.Value.int Go.IntKind.u8 0) := rval_zero Try.zeroValue228
theorem un229 {F : Fr} {h : Hp} {K : TypeDesc → Hp → Prop} : dwp Try.prog F (underlying 229) h K = K (Go.TypeDesc.func #[237, 237] #[4] false) h := by rw [dwp_underlying, Try.underlying229]; rfl
theorem ru229 {F : Fr} {S : Hp} : rval Try.prog F (underlying 229) S = some (Go.TypeDesc.func #[237, 237] #[4] false) := rval_un Try.underlying229
theorem sz229 {F : Fr} {h : Hp} {K : Nat → Hp → Prop} : dwp Try.prog F (sizeOf 229) h K = K 1 h := dwp_size_of Try.sizeOf229
theorem rs229 {F : Fr} {S : Hp} : rval Try.prog F (sizeOf 229) S = some 1 := rval_size Try.sizeOf229
theorem ag229 {F : Fr} {h : Hp} {K : Bool → Hp → Prop} : dwp Try.prog F (isAgg 229) h K = K false h := dwp_agg_of Try.isAgg229
theorem ra229 {F : Fr} {S : Hp} : rval Try.prog F (isAgg 229) S = some false := rval_agg Try.isAgg229
theorem ze229 {F : Fr} {h : Hp} {K : Value → Hp → Prop} : dwp Try.prog F (zeroValue 229) h K = K Go.Value.nilFunc h := dwp_zero_of Try.zeroValue229
theorem rz229 {F : Fr} {S : Hp} : rval Try.prog F (zeroValue 229) S = some (Go.Value.nilFunc) := rval_zero Try.zeroValue229
theorem un230 {F : Fr} {h : Hp} {K : TypeDesc → Hp → Prop} : dwp Try.prog F (underlying 230) h K = K (Go.TypeDesc.pointer 5) h := by rw [dwp_underlying, Try.underlying230]; rfl
theorem ru230 {F : Fr} {S : Hp} : rval Try.prog F (underlying 230) S = some (Go.TypeDesc.pointer 5) := rval_un Try.underlying230
theorem sz230 {F : Fr} {h : Hp} {K : Nat → Hp → Prop} : dwp Try.prog F (sizeOf 230) h K = K 1 h := dwp_size_of Try.sizeOf230
theorem rs230 {F : Fr} {S : Hp} : rval Try.prog F (sizeOf 230) S = some 1 := rval_size Try.sizeOf230
theorem ag230 {F : Fr} {h : Hp} {K : Bool → Hp → Prop} : dwp Try.prog F (isAgg 230) h K = K false h := dwp_agg_of Try.isAgg230
theorem ra230 {F : Fr} {S : Hp} : rval Try.prog F (isAgg 230) S = some false := rval_agg Try.isAgg230
theorem ze230 {F : Fr} {h : Hp} {K : Value → Hp → Prop} : dwp Try.prog F (zeroValue 230) h K = K (Go.Value.pointer none) h := dwp_zero_of Try.zeroValue230
theorem rz230 {F : Fr} {S : Hp} : rval Try.prog F (zeroValue 230) S = some (Go.Value.pointer none) := rval_zero Try.zeroValue230
theorem un231 {F : Fr} {h : Hp} {K : TypeDesc → Hp → Prop} : dwp Try.prog F (underlying 231) h K = K (Go.TypeDesc.int Go.IntKind.i32) h := by rw [dwp_underlying, Try.underlying231]; rfl
theorem ru231 {F : Fr} {S : Hp} : rval Try.prog F (underlying 231) S = some (Go.TypeDesc.int Go.IntKind.i32) := rval_un Try.underlying231
theorem sz231 {F : Fr} {h : Hp} {K : Nat → Hp → Prop} : dwp Try.prog F (sizeOf 231) h K = K 1 h := dwp_size_of Try.sizeOf231
theorem rs231 {F : Fr} {S : Hp} : rval Try.prog F (sizeOf 231) S = some 1 := rval_size Try.sizeOf231
theorem ag231 {F : Fr} {h : Hp} {K : Bool → Hp → Prop} : dwp Try.prog F (isAgg 231) h K = K false h := dwp_agg_of Try.isAgg231
theorem ra231 {F : Fr} {S : Hp} : rval Try.prog F (isAgg 231) S = some false := rval_agg Try.isAgg231
theorem ze231 {F : Fr} {h : Hp} {K : Value → Hp → Prop} : dwp Try.prog F (zeroValue 231) h K = K (Go.Value.int Go.IntKind.i32 0) h := dwp_zero_of Try.zeroValue231
theorem rz231 {F : Fr} {S : Hp} : rval Try.prog F (zeroValue 231) S = some (Go.Value.int Go.IntKind.i32 0) := rval_zero Try.zeroValue231
theorem un232 {F : Fr} {h : Hp} {K : TypeDesc → Hp → Prop} : dwp Try.prog F (underlying 232) h K = K (Go.TypeDesc.int Go.IntKind.i32) h := by rw [dwp_underlying, Try.underlying232]; rfl
theorem ru232 {F : Fr} {S : Hp} : rval Try.prog F (underlying 232) S = some (Go.TypeDesc.int Go.IntKind.i32) := rval_un Try.underlying232
theorem sz232 {F : Fr} {h : Hp} {K : Nat → Hp → Prop} : dwp Try.prog F (sizeOf 232) h K = K 1 h := dwp_size_of Try.sizeOf232
theorem rs232 {F : Fr} {S : Hp} : rval Try.prog F (sizeOf 232) S = some 1 := rval_size Try.sizeOf232
theorem ag232 {F : Fr} {h : Hp} {K : Bool → Hp → Prop} : dwp Try.prog F (isAgg 232) h K = K false h := dwp_agg_of Try.isAgg232
theorem ra232 {F : Fr} {S : Hp} : rval Try.prog F (isAgg 232) S = some false := rval_agg Try.isAgg232
theorem ze232 {F : Fr} {h : Hp} {K : Value → Hp → Prop} : dwp Try.prog F (zeroValue 232) h K = K (Go.Value.int Go.IntKind.i32 0) h := dwp_zero_of Try.zeroValue232
theorem rz232 {F : Fr} {S : Hp} : rval Try.prog F (zeroValue 232) S = some (Go.Value.int Go.IntKind.i32 0) := rval_zero Try.zeroValue232
theorem un233 {F : Fr} {h : Hp} {K : TypeDesc → Hp → Prop} : dwp Try.prog F (underlying 233) h K = K (Go.TypeDesc.struct #[{ name := "Size_", type := 12, offset := 0, embedded := false, tag := "", pkgPath := "", byteOffset := 0 }, { name := "PtrBytes", type := 12, offset := 1, embedded := false, tag := "", pkgPath := "", byteOffset := 8 }, { name := "Hash", type := 226, offset := 2, embedded := false, tag := "", pkgPath := "", byteOffset := 16 }, { name := "TFlag", type := 227, offset := 3, embedded := false, tag := "", pkgPath := "", byteOffset := 20 }, { name := "Align_", type := 5, offset := 4, embedded := false, tag := "", pkgPath := "", byteOffset := 21 }, { name := "FieldAlign_", type := 5, offset := 5, embedded := false, tag := "", pkgPath := "", byteOffset := 22 }, { name := "Kind_", type := 228, offset := 6, embedded := false, tag := "", pkgPath := "", byteOffset := 23 }, { name := "Equal", type := 229, offset := 7, embedded := false, tag := "", pkgPath := "", byteOffset := 24 }, { name := "GCData", type := 230, offset := 8, embedded := false, tag := "", pkgPath := "", byteOffset := 32 }, { name := "Str", type := 231, offset := 9, embedded := false, tag := "", pkgPath := "", byteOffset := 40 }, { name := "PtrToThis", type := 232, offset := 10, embedded := false, tag := "", pkgPath := "", byteOffset := 44 }]) h := by rw [dwp_underlying, Try.underlying233]; rfl
theorem ru233 {F : Fr} {S : Hp} : rval Try.prog F (underlying 233) S = some (Go.TypeDesc.struct #[{ name := "Size_", type := 12, offset := 0, embedded := false, tag := "", pkgPath := "", byteOffset := 0 }, { name := "PtrBytes", type := 12, offset := 1, embedded := false, tag := "", pkgPath := "", byteOffset := 8 }, { name := "Hash", type := 226, offset := 2, embedded := false, tag := "", pkgPath := "", byteOffset := 16 }, { name := "TFlag", type := 227, offset := 3, embedded := false, tag := "", pkgPath := "", byteOffset := 20 }, { name := "Align_", type := 5, offset := 4, embedded := false, tag := "", pkgPath := "", byteOffset := 21 }, { name := "FieldAlign_", type := 5, offset := 5, embedded := false, tag := "", pkgPath := "", byteOffset := 22 }, { name := "Kind_", type := 228, offset := 6, embedded := false, tag := "", pkgPath := "", byteOffset := 23 }, { name := "Equal", type := 229, offset := 7, embedded := false, tag := "", pkgPath := "", byteOffset := 24 }, { name := "GCData", type := 230, offset := 8, embedded := false, tag := "", pkgPath := "", byteOffset := 32 }, { name := "Str", type := 231, offset := 9, embedded := false, tag := "", pkgPath := "", byteOffset := 40 }, { name := "PtrToThis", type := 232, offset := 10, embedded := false, tag := "", pkgPath := "", byteOffset := 44 }]) := rval_un Try.underlying233
theorem sz233 {F : Fr} {h : Hp} {K : Nat → Hp → Prop} : dwp Try.prog F (sizeOf 233) h K = K 11 h := dwp_size_of Try.sizeOf233
theorem rs233 {F : Fr} {S : Hp} : rval Try.prog F (sizeOf 233) S = some 11 := rval_size Try.sizeOf233
theorem ag233 {F : Fr} {h : Hp} {K : Bool → Hp → Prop} : dwp Try.prog F (isAgg 233) h K = K true h := dwp_agg_of Try.isAgg233
theorem ra233 {F : Fr} {S : Hp} : rval Try.prog F (isAgg 233) S = some true := rval_agg Try.isAgg233
theorem ze233 {F : Fr} {h : Hp} {K : Value → Hp → Prop} : dwp Try.prog F (zeroValue 233) h K = K (Go.Value.agg #[Go.Value.int Go.IntKind.u64 0, Go.Value.int Go.IntKind.u64 0, Go.Value.int Go.IntKind.u32 0, Go.Value.int Go.IntKind.u8 0, Go.Value.int Go.IntKind.u8 0, Go.Value.int Go.IntKind.u8 0, Go.Value.int Go.IntKind.u8 0, Go.Value.nilFunc, Go.Value.pointer none, Go.Value.int Go.IntKind.i32 0, Go.Value.int Go.IntKind.i32 0]) h := dwp_zero_of Try.zeroValue233
theorem rz233 {F : Fr} {S : Hp} : rval Try.prog F (zeroValue 233) S = some (Go.Value.agg #[Go.Value.int Go.IntKind.u64 0, Go.Value.int Go.IntKind.u64 0, Go.Value.int Go.IntKind.u32 0, Go.Value.int Go.IntKind.u8 0, Go.Value.int Go.IntKind.u8 0, Go.Value.int Go.IntKind.u8 0, Go.Value.int Go.IntKind.u8 0, Go.Value.nilFunc, Go.Value.pointer none, Go.Value.int Go.IntKind.i32 0, Go.Value.int Go.IntKind.i32 0]) := rval_zero Try.zeroValue233
theorem un234 {F : Fr} {h : Hp} {K : TypeDesc → Hp → Prop} : dwp Try.prog F (underlying 234) h K = K (Go.TypeDesc.struct #[{ name := "Size_", type := 12, offset := 0, embedded := false, tag := "", pkgPath := "", byteOffset := 0 }, { name := "PtrBytes", type := 12, offset := 1, embedded := false, tag := "", pkgPath := "", byteOffset := 8 }, { name := "Hash", type := 226, offset := 2, embedded := false, tag := "", pkgPath := "", byteOffset := 16 }, { name := "TFlag", type := 227, offset := 3, embedded := false, tag := "", pkgPath := "", byteOffset := 20 }, { name := "Align_", type := 5, offset := 4, embedded := false, tag := "", pkgPath := "", byteOffset := 21 }, { name := "FieldAlign_", type := 5, offset := 5, embedded := false, tag := "", pkgPath := "", byteOffset := 22 }, { name := "Kind_", type := 228, offset := 6, embedded := false, tag := "", pkgPath := "", byteOffset := 23 }, { name := "Equal", type := 229, offset := 7, embedded := false, tag := "", pkgPath := "", byteOffset := 24 }, { name := "GCData", type := 230, offset := 8, embedded := false, tag := "", pkgPath := "", byteOffset := 32 }, { name := "Str", type := 231, offset := 9, embedded := false, tag := "", pkgPath := "", byteOffset := 40 }, { name := "PtrToThis", type := 232, offset := 10, embedded := false, tag := "", pkgPath := "", byteOffset := 44 }]) h := by rw [dwp_underlying, Try.underlying234]; rfl
theorem ru234 {F : Fr} {S : Hp} : rval Try.prog F (underlying 234) S = some (Go.TypeDesc.struct #[{ name := "Size_", type := 12, offset := 0, embedded := false, tag := "", pkgPath := "", byteOffset := 0 }, { name := "PtrBytes", type := 12, offset := 1, embedded := false, tag := "", pkgPath := "", byteOffset := 8 }, { name := "Hash", type := 226, offset := 2, embedded := false, tag := "", pkgPath := "", byteOffset := 16 }, { name := "TFlag", type := 227, offset := 3, embedded := false, tag := "", pkgPath := "", byteOffset := 20 }, { name := "Align_", type := 5, offset := 4, embedded := false, tag := "", pkgPath := "", byteOffset := 21 }, { name := "FieldAlign_", type := 5, offset := 5, embedded := false, tag := "", pkgPath := "", byteOffset := 22 }, { name := "Kind_", type := 228, offset := 6, embedded := false, tag := "", pkgPath := "", byteOffset := 23 }, { name := "Equal", type := 229, offset := 7, embedded := false, tag := "", pkgPath := "", byteOffset := 24 }, { name := "GCData", type := 230, offset := 8, embedded := false, tag := "", pkgPath := "", byteOffset := 32 }, { name := "Str", type := 231, offset := 9, embedded := false, tag := "", pkgPath := "", byteOffset := 40 }, { name := "PtrToThis", type := 232, offset := 10, embedded := false, tag := "", pkgPath := "", byteOffset := 44 }]) := rval_un Try.underlying234
theorem sz234 {F : Fr} {h : Hp} {K : Nat → Hp → Prop} : dwp Try.prog F (sizeOf 234) h K = K 11 h := dwp_size_of Try.sizeOf234
theorem rs234 {F : Fr} {S : Hp} : rval Try.prog F (sizeOf 234) S = some 11 := rval_size Try.sizeOf234
theorem ag234 {F : Fr} {h : Hp} {K : Bool → Hp → Prop} : dwp Try.prog F (isAgg 234) h K = K true h := dwp_agg_of Try.isAgg234
theorem ra234 {F : Fr} {S : Hp} : rval Try.prog F (isAgg 234) S = some true := rval_agg Try.isAgg234
theorem ze234 {F : Fr} {h : Hp} {K : Value → Hp → Prop} : dwp Try.prog F (zeroValue 234) h K = K (Go.Value.agg #[Go.Value.int Go.IntKind.u64 0, Go.Value.int Go.IntKind.u64 0, Go.Value.int Go.IntKind.u32 0, Go.Value.int Go.IntKind.u8 0, Go.Value.int Go.IntKind.u8 0, Go.Value.int Go.IntKind.u8 0, Go.Value.int Go.IntKind.u8 0, Go.Value.nilFunc, Go.Value.pointer none, Go.Value.int Go.IntKind.i32 0, Go.Value.int Go.IntKind.i32 0]) h := dwp_zero_of Try.zeroValue234
theorem rz234 {F : Fr} {S : Hp} : rval Try.prog F (zeroValue 234) S = some (Go.Value.agg #[Go.Value.int Go.IntKind.u64 0, Go.Value.int Go.IntKind.u64 0, Go.Value.int Go.IntKind.u32 0, Go.Value.int Go.IntKind.u8 0, Go.Value.int Go.IntKind.u8 0, Go.Value.int Go.IntKind.u8 0, Go.Value.int Go.IntKind.u8 0, Go.Value.nilFunc, Go.Value.pointer none, Go.Value.int Go.IntKind.i32 0, Go.Value.int Go.IntKind.i32 0]) := rval_zero Try.zeroValue234
theorem un235 {F : Fr} {h : Hp} {K : TypeDesc → Hp → Prop} : dwp Try.prog F (underlying 235) h K = K (Go.TypeDesc.func #[3, 30] #[152] false) h := by rw [dwp_underlying, Try.underlying235]; rfl
theorem ru235 {F : Fr} {S : Hp} : rval Try.prog F (underlying 235) S = some (Go.TypeDesc.func #[3, 30] #[152] false) := rval_un Try.underlying235
theorem sz235 {F : Fr} {h : Hp} {K : Nat → Hp → Prop} : dwp Try.prog F (sizeOf 235) h K = K 1 h := dwp_size_of Try.sizeOf235
theorem rs235 {F : Fr} {S : Hp} : rval Try.prog F (sizeOf 235) S = some 1 := rval_size Try.sizeOf235
theorem ag235 {F : Fr} {h : Hp} {K : Bool → Hp → Prop} : dwp Try.prog F (isAgg 235) h K = K false h := dwp_agg_of Try.isAgg235
theorem ra235 {F : Fr} {S : Hp} : rval Try.prog F (isAgg 235) S = some false := rval_agg Try.isAgg235
theorem ze235 {F : Fr} {h : Hp} {K : Value → Hp → Prop} : dwp Try.prog F (zeroValue 235) h K = K Go.Value.nilFunc h := dwp_zero_of Try.zeroValue235
theorem rz235 {F : Fr} {S : Hp} : rval Try.prog F (zeroValue 235) S = some (Go.Value.nilFunc) := rval_zero Try.zeroValue235
theorem un236 {F : Fr} {h : Hp} {K : TypeDesc → Hp → Prop} : dwp Try.prog F (underlying 236) h K = K (Go.TypeDesc.func #[195] #[] false) h := by rw [dwp_underlying, Try.underlying236]; rfl
theorem ru236 {F : Fr} {S : Hp} : rval Try.prog F (underlying 236) S = some (Go.TypeDesc.func #[195] #[] false) := rval_un Try.underlying236
theorem sz236 {F : Fr} {h : Hp} {K : Nat → Hp → Prop} : dwp Try.prog F (sizeOf 236) h K = K 1 h := dwp_size_of Try.sizeOf236
theorem rs236 {F : Fr} {S : Hp} : rval Try.prog F (sizeOf 236) S = some 1 := rval_size Try.sizeOf236
theorem ag236 {F : Fr} {h : Hp} {K : Bool → Hp → Prop} : dwp Try.prog F (isAgg 236) h K = K false h := dwp_agg_of Try.isAgg236
theorem ra236 {F : Fr} {S : Hp} : rval Try.prog F (isAgg 236) S = some false := rval_agg Try.isAgg236
theorem ze236 {F : Fr} {h : Hp} {K : Value → Hp → Prop} : dwp Try.prog F (zeroValue 236) h K = K Go.Value.nilFunc h := dwp_zero_of Try.zeroValue236
theorem rz236 {F : Fr} {S : Hp} : rval Try.prog F (zeroValue 236) S = some (Go.Value.nilFunc) := rval_zero Try.zeroValue236
theorem un237 {F : Fr} {h : Hp} {K : TypeDesc → Hp → Prop} : dwp Try.prog F (underlying 237) h K = K (Go.TypeDesc.unsafePointer) h := by rw [dwp_underlying, Try.underlying237]; rfl
theorem ru237 {F : Fr} {S : Hp} : rval Try.prog F (underlying 237) S = some (Go.TypeDesc.unsafePointer) := rval_un Try.underlying237
theorem sz237 {F : Fr} {h : Hp} {K : Nat → Hp → Prop} : dwp Try.prog F (sizeOf 237) h K = K 1 h := dwp_size_of Try.sizeOf237
theorem rs237 {F : Fr} {S : Hp} : rval Try.prog F (sizeOf 237) S = some 1 := rval_size Try.sizeOf237
theorem ag237 {F : Fr} {h : Hp} {K : Bool → Hp → Prop} : dwp Try.prog F (isAgg 237) h K = K false h := dwp_agg_of Try.isAgg237
theorem ra237 {F : Fr} {S : Hp} : rval Try.prog F (isAgg 237) S = some false := rval_agg Try.isAgg237
theorem ze237 {F : Fr} {h : Hp} {K : Value → Hp → Prop} : dwp Try.prog F (zeroValue 237) h K = K (Go.Value.pointer none) h := dwp_zero_of Try.zeroValue237
theorem rz237 {F : Fr} {S : Hp} : rval Try.prog F (zeroValue 237) S = some (Go.Value.pointer none) := rval_zero Try.zeroValue237
theorem en2 {F : Fr} {h : Hp} {xs : Array Value} {K : Next → Hp → Prop} : dwp Try.prog F (callFunc 2 xs) h K = K (.enter 2 xs) h := dwp_callFunc (by unfold entB; rw [Try.func2]; rfl)
theorem re2 {F : Fr} {S : Hp} {xs : Array Value} : rval Try.prog F (callFunc 2 xs) S = some (.enter 2 xs) := rval_callFunc (by unfold entB; rw [Try.func2]; rfl)
theorem en3 {F : Fr} {h : Hp} {xs : Array Value} {K : Next → Hp → Prop} : dwp Try.prog F (callFunc 3 xs) h K = K (.enter 3 xs) h := dwp_callFunc (by unfold entB; rw [Try.func3]; rfl)
theorem re3 {F : Fr} {S : Hp} {xs : Array Value} : rval Try.prog F (callFunc 3 xs) S = some (.enter 3 xs) := rval_callFunc (by unfold entB; rw [Try.func3]; rfl)
theorem ni3 : Try.prog.inits.idxOf? 3 = none := by kernel_rfl
theorem en4 {F : Fr} {h : Hp} {xs : Array Value} {K : Next → Hp → Prop} : dwp Try.prog F (callFunc 4 xs) h K = K (.enter 4 xs) h := dwp_callFunc (by unfold entB; rw [Try.func4]; rfl)
theorem re4 {F : Fr} {S : Hp} {xs : Array Value} : rval Try.prog F (callFunc 4 xs) S = some (.enter 4 xs) := rval_callFunc (by unfold entB; rw [Try.func4]; rfl)
theorem ni4 : Try.prog.inits.idxOf? 4 = none := by kernel_rfl
theorem en5 {F : Fr} {h : Hp} {xs : Array Value} {K : Next → Hp → Prop} : dwp Try.prog F (callFunc 5 xs) h K = K (.enter 5 xs) h := dwp_callFunc (by unfold entB; rw [Try.func5]; rfl)
theorem re5 {F : Fr} {S : Hp} {xs : Array Value} : rval Try.prog F (callFunc 5 xs) S = some (.enter 5 xs) := rval_callFunc (by unfold entB; rw [Try.func5]; rfl)
theorem ni5 : Try.prog.inits.idxOf? 5 = none := by kernel_rfl
theorem en6 {F : Fr} {h : Hp} {xs : Array Value} {K : Next → Hp → Prop} : dwp Try.prog F (callFunc 6 xs) h K = K (.enter 6 xs) h := dwp_callFunc (by unfold entB; rw [Try.func6]; rfl)
theorem re6 {F : Fr} {S : Hp} {xs : Array Value} : rval Try.prog F (callFunc 6 xs) S = some (.enter 6 xs) := rval_callFunc (by unfold entB; rw [Try.func6]; rfl)
theorem ni6 : Try.prog.inits.idxOf? 6 = none := by kernel_rfl
theorem en7 {F : Fr} {h : Hp} {xs : Array Value} {K : Next → Hp → Prop} : dwp Try.prog F (callFunc 7 xs) h K = K (.enter 7 xs) h := dwp_callFunc (by unfold entB; rw [Try.func7]; rfl)
theorem re7 {F : Fr} {S : Hp} {xs : Array Value} : rval Try.prog F (callFunc 7 xs) S = some (.enter 7 xs) := rval_callFunc (by unfold entB; rw [Try.func7]; rfl)
theorem ni7 : Try.prog.inits.idxOf? 7 = none := by kernel_rfl
theorem en8 {F : Fr} {h : Hp} {xs : Array Value} {K : Next → Hp → Prop} : dwp Try.prog F (callFunc 8 xs) h K = K (.enter 8 xs) h := dwp_callFunc (by unfold entB; rw [Try.func8]; rfl)
theorem re8 {F : Fr} {S : Hp} {xs : Array Value} : rval Try.prog F (callFunc 8 xs) S = some (.enter 8 xs) := rval_callFunc (by unfold entB; rw [Try.func8]; rfl)
theorem ni8 : Try.prog.inits.idxOf? 8 = none := by kernel_rfl
theorem en9 {F : Fr} {h : Hp} {xs : Array Value} {K : Next → Hp → Prop} : dwp Try.prog F (callFunc 9 xs) h K = K (.enter 9 xs) h := dwp_callFunc (by unfold entB; rw [Try.func9]; rfl)
theorem re9 {F : Fr} {S : Hp} {xs : Array Value} : rval Try.prog F (callFunc 9 xs) S = some (.enter 9 xs) := rval_callFunc (by unfold entB; rw [Try.func9]; rfl)
theorem ni9 : Try.prog.inits.idxOf? 9 = none := by kernel_rfl
theorem en10 {F : Fr} {h : Hp} {xs : Array Value} {K : Next → Hp → Prop} : dwp Try.prog F (callFunc 10 xs) h K = K (.enter 10 xs) h := dwp_callFunc (by unfold entB; rw [Try.func10]; rfl)
theorem re10 {F : Fr} {S : Hp} {xs : Array Value} : rval Try.prog F (callFunc 10 xs) S = some (.enter 10 xs) := rval_callFunc (by unfold entB; rw [Try.func10]; rfl)
theorem ni10 : Try.prog.inits.idxOf? 10 = none := by kernel_rfl
theorem en11 {F : Fr} {h : Hp} {xs : Array Value} {K : Next → Hp → Prop} : dwp Try.prog F (callFunc 11 xs) h K = K (.enter 11 xs) h := dwp_callFunc (by unfold entB; rw [Try.func11]; rfl)
theorem re11 {F : Fr} {S : Hp} {xs : Array Value} : rval Try.prog F (callFunc 11 xs) S = some (.enter 11 xs) := rval_callFunc (by unfold entB; rw [Try.func11]; rfl)
theorem ni11 : Try.prog.inits.idxOf? 11 = none := by kernel_rfl
theorem en12 {F : Fr} {h : Hp} {xs : Array Value} {K : Next → Hp → Prop} : dwp Try.prog F (callFunc 12 xs) h K = K (.enter 12 xs) h := dwp_callFunc (by unfold entB; rw [Try.func12]; rfl)
theorem re12 {F : Fr} {S : Hp} {xs : Array Value} : rval Try.prog F (callFunc 12 xs) S = some (.enter 12 xs) := rval_callFunc (by unfold entB; rw [Try.func12]; rfl)
theorem ni12 : Try.prog.inits.idxOf? 12 = none := by kernel_rfl
theorem en13 {F : Fr} {h : Hp} {xs : Array Value} {K : Next → Hp → Prop} : dwp Try.prog F (callFunc 13 xs) h K = K (.enter 13 xs) h := dwp_callFunc (by unfold entB; rw [Try.func13]; rfl)
theorem re13 {F : Fr} {S : Hp} {xs : Array Value} : rval Try.prog F (callFunc 13 xs) S = some (.enter 13 xs) := rval_callFunc (by unfold entB; rw [Try.func13]; rfl)
theorem ni13 : Try.prog.inits.idxOf? 13 = none := by kernel_rfl
theorem en14 {F : Fr} {h : Hp} {xs : Array Value} {K : Next → Hp → Prop} : dwp Try.prog F (callFunc 14 xs) h K = K (.enter 14 xs) h := dwp_callFunc (by unfold entB; rw [Try.func14]; rfl)
theorem re14 {F : Fr} {S : Hp} {xs : Array Value} : rval Try.prog F (callFunc 14 xs) S = some (.enter 14 xs) := rval_callFunc (by unfold entB; rw [Try.func14]; rfl)
theorem ni14 : Try.prog.inits.idxOf? 14 = none := by kernel_rfl
theorem en15 {F : Fr} {h : Hp} {xs : Array Value} {K : Next → Hp → Prop} : dwp Try.prog F (callFunc 15 xs) h K = K (.enter 15 xs) h := dwp_callFunc (by unfold entB; rw [Try.func15]; rfl)
theorem re15 {F : Fr} {S : Hp} {xs : Array Value} : rval Try.prog F (callFunc 15 xs) S = some (.enter 15 xs) := rval_callFunc (by unfold entB; rw [Try.func15]; rfl)
theorem ni15 : Try.prog.inits.idxOf? 15 = none := by kernel_rfl
theorem en16 {F : Fr} {h : Hp} {xs : Array Value} {K : Next → Hp → Prop} : dwp Try.prog F (callFunc 16 xs) h K = K (.enter 16 xs) h := dwp_callFunc (by unfold entB; rw [Try.func16]; rfl)
theorem re16 {F : Fr} {S : Hp} {xs : Array Value} : rval Try.prog F (callFunc 16 xs) S = some (.enter 16 xs) := rval_callFunc (by unfold entB; rw [Try.func16]; rfl)
theorem ni16 : Try.prog.inits.idxOf? 16 = none := by kernel_rfl
theorem en17 {F : Fr} {h : Hp} {xs : Array Value} {K : Next → Hp → Prop} : dwp Try.prog F (callFunc 17 xs) h K = K (.enter 17 xs) h := dwp_callFunc (by unfold entB; rw [Try.func17]; rfl)
theorem re17 {F : Fr} {S : Hp} {xs : Array Value} : rval Try.prog F (callFunc 17 xs) S = some (.enter 17 xs) := rval_callFunc (by unfold entB; rw [Try.func17]; rfl)
theorem ni17 : Try.prog.inits.idxOf? 17 = none := by kernel_rfl
theorem en18 {F : Fr} {h : Hp} {xs : Array Value} {K : Next → Hp → Prop} : dwp Try.prog F (callFunc 18 xs) h K = K (.enter 18 xs) h := dwp_callFunc (by unfold entB; rw [Try.func18]; rfl)
theorem re18 {F : Fr} {S : Hp} {xs : Array Value} : rval Try.prog F (callFunc 18 xs) S = some (.enter 18 xs) := rval_callFunc (by unfold entB; rw [Try.func18]; rfl)
theorem ni18 : Try.prog.inits.idxOf? 18 = none := by kernel_rfl
theorem en19 {F : Fr} {h : Hp} {xs : Array Value} {K : Next → Hp → Prop} : dwp Try.prog F (callFunc 19 xs) h K = K (.enter 19 xs) h := dwp_callFunc (by unfold entB; rw [Try.func19]; rfl)
theorem re19 {F : Fr} {S : Hp} {xs : Array Value} : rval Try.prog F (callFunc 19 xs) S = some (.enter 19 xs) := rval_callFunc (by unfold entB; rw [Try.func19]; rfl)
theorem ni19 : Try.prog.inits.idxOf? 19 = none := by kernel_rfl
theorem en20 {F : Fr} {h : Hp} {xs : Array Value} {K : Next → Hp → Prop} : dwp Try.prog F (callFunc 20 xs) h K = K (.enter 20 xs) h := dwp_callFunc (by unfold entB; rw [Try.func20]; rfl)
theorem re20 {F : Fr} {S : Hp} {xs : Array Value} : rval Try.prog F (callFunc 20 xs) S = some (.enter 20 xs) := rval_callFunc (by unfold entB; rw [Try.func20]; rfl)
theorem ni20 : Try.prog.inits.idxOf? 20 = none := by kernel_rfl
theorem en21 {F : Fr} {h : Hp} {xs : Array Value} {K : Next → Hp → Prop} : dwp Try.prog F (callFunc 21 xs) h K = K (.enter 21 xs) h := dwp_callFunc (by unfold entB; rw [Try.func21]; rfl)
theorem re21 {F : Fr} {S : Hp} {xs : Array Value} : rval Try.prog F (callFunc 21 xs) S = some (.enter 21 xs) := rval_callFunc (by unfold entB; rw [Try.func21]; rfl)
theorem ni21 : Try.prog.inits.idxOf? 21 = none := by kernel_rfl
theorem en22 {F : Fr} {h : Hp} {xs : Array Value} {K : Next → Hp → Prop} : dwp Try.prog F (callFunc 22 xs) h K = K (.enter 22 xs) h := dwp_callFunc (by unfold entB; rw [Try.func22]; rfl)
theorem re22 {F : Fr} {S : Hp} {xs : Array Value} : rval Try.prog F (callFunc 22 xs) S = some (.enter 22 xs) := rval_callFunc (by unfold entB; rw [Try.func22]; rfl)
theorem ni22 : Try.prog.inits.idxOf? 22 = none := by kernel_rfl
theorem en23 {F : Fr} {h : Hp} {xs : Array Value} {K : Next → Hp → Prop} : dwp Try.prog F (callFunc 23 xs) h K = K (.enter 23 xs) h := dwp_callFunc (by unfold entB; rw [Try.func23]; rfl)
theorem re23 {F : Fr} {S : Hp} {xs : Array Value} : rval Try.prog F (callFunc 23 xs) S = some (.enter 23 xs) := rval_callFunc (by unfold entB; rw [Try.func23]; rfl)
theorem ni23 : Try.prog.inits.idxOf? 23 = none := by kernel_rfl
theorem en24 {F : Fr} {h : Hp} {xs : Array Value} {K : Next → Hp → Prop} : dwp Try.prog F (callFunc 24 xs) h K = K (.enter 24 xs) h := dwp_callFunc (by unfold entB; rw [Try.func24]; rfl)
theorem re24 {F : Fr} {S : Hp} {xs : Array Value} : rval Try.prog F (callFunc 24 xs) S = some (.enter 24 xs) := rval_callFunc (by unfold entB; rw [Try.func24]; rfl)
theorem ni24 : Try.prog.inits.idxOf? 24 = none := by kernel_rfl
theorem en25 {F : Fr} {h : Hp} {xs : Array Value} {K : Next → Hp → Prop} : dwp Try.prog F (callFunc 25 xs) h K = K (.enter 25 xs) h := dwp_callFunc (by unfold entB; rw [Try.func25]; rfl)
theorem re25 {F : Fr} {S : Hp} {xs : Array Value} : rval Try.prog F (callFunc 25 xs) S = some (.enter 25 xs) := rval_callFunc (by unfold entB; rw [Try.func25]; rfl)
theorem ni25 : Try.prog.inits.idxOf? 25 = none := by kernel_rfl
theorem en26 {F : Fr} {h : Hp} {xs : Array Value} {K : Next → Hp → Prop} : dwp Try.prog F (callFunc 26 xs) h K = K (.enter 26 xs) h := dwp_callFunc (by unfold entB; rw [Try.func26]; rfl)
theorem re26 {F : Fr} {S : Hp} {xs : Array Value} : rval Try.prog F (callFunc 26 xs) S = some (.enter 26 xs) := rval_callFunc (by unfold entB; rw [Try.func26]; rfl)
theorem ni26 : Try.prog.inits.idxOf? 26 = none := by kernel_rfl
theorem en27 {F : Fr} {h : Hp} {xs : Array Value} {K : Next → Hp → Prop} : dwp Try.prog F (callFunc 27 xs) h K = K (.enter 27 xs) h := dwp_callFunc (by unfold entB; rw [Try.func27]; rfl)
theorem re27 {F : Fr} {S : Hp} {xs : Array Value} : rval Try.prog F (callFunc 27 xs) S = some (.enter 27 xs) := rval_callFunc (by unfold entB; rw [Try.func27]; rfl)
theorem ni27 : Try.prog.inits.idxOf? 27 = none := by kernel_rfl
theorem en28 {F : Fr} {h : Hp} {xs : Array Value} {K : Next → Hp → Prop} : dwp Try.prog F (callFunc 28 xs) h K = K (.enter 28 xs) h := dwp_callFunc (by unfold entB; rw [Try.func28]; rfl)
theorem re28 {F : Fr} {S : Hp} {xs : Array Value} : rval Try.prog F (callFunc 28 xs) S = some (.enter 28 xs) := rval_callFunc (by unfold entB; rw [Try.func28]; rfl)
theorem ni28 : Try.prog.inits.idxOf? 28 = none := by kernel_rfl
theorem en29 {F : Fr} {h : Hp} {xs : Array Value} {K : Next → Hp → Prop} : dwp Try.prog F (callFunc 29 xs) h K = K (.enter 29 xs) h := dwp_callFunc (by unfold entB; rw [Try.func29]; rfl)
theorem re29 {F : Fr} {S : Hp} {xs : Array Value} : rval Try.prog F (callFunc 29 xs) S = some (.enter 29 xs) := rval_callFunc (by unfold entB; rw [Try.func29]; rfl)
theorem ni29 : Try.prog.inits.idxOf? 29 = none := by kernel_rfl
theorem en30 {F : Fr} {h : Hp} {xs : Array Value} {K : Next → Hp → Prop} : dwp Try.prog F (callFunc 30 xs) h K = K (.enter 30 xs) h := dwp_callFunc (by unfold entB; rw [Try.func30]; rfl)
theorem re30 {F : Fr} {S : Hp} {xs : Array Value} : rval Try.prog F (callFunc 30 xs) S = some (.enter 30 xs) := rval_callFunc (by unfold entB; rw [Try.func30]; rfl)
theorem ni30 : Try.prog.inits.idxOf? 30 = none := by kernel_rfl
theorem en31 {F : Fr} {h : Hp} {xs : Array Value} {K : Next → Hp → Prop} : dwp Try.prog F (callFunc 31 xs) h K = K (.enter 31 xs) h := dwp_callFunc (by unfold entB; rw [Try.func31]; rfl)
theorem re31 {F : Fr} {S : Hp} {xs : Array Value} : rval Try.prog F (callFunc 31 xs) S = some (.enter 31 xs) := rval_callFunc (by unfold entB; rw [Try.func31]; rfl)
theorem ni31 : Try.prog.inits.idxOf? 31 = none := by kernel_rfl
theorem en32 {F : Fr} {h : Hp} {xs : Array Value} {K : Next → Hp → Prop} : dwp Try.prog F (callFunc 32 xs) h K = K (.enter 32 xs) h := dwp_callFunc (by unfold entB; rw [Try.func32]; rfl)
theorem re32 {F : Fr} {S : Hp} {xs : Array Value} : rval Try.prog F (callFunc 32 xs) S = some (.enter 32 xs) := rval_callFunc (by unfold entB; rw [Try.func32]; rfl)
theorem ni32 : Try.prog.inits.idxOf? 32 = none := by kernel_rfl
theorem en33 {F : Fr} {h : Hp} {xs : Array Value} {K : Next → Hp → Prop} : dwp Try.prog F (callFunc 33 xs) h K = K (.enter 33 xs) h := dwp_callFunc (by unfold entB; rw [Try.func33]; rfl)
theorem re33 {F : Fr} {S : Hp} {xs : Array Value} : rval Try.prog F (callFunc 33 xs) S = some (.enter 33 xs) := rval_callFunc (by unfold entB; rw [Try.func33]; rfl)
theorem ni33 : Try.prog.inits.idxOf? 33 = none := by kernel_rfl
theorem en34 {F : Fr} {h : Hp} {xs : Array Value} {K : Next → Hp → Prop} : dwp Try.prog F (callFunc 34 xs) h K = K (.enter 34 xs) h := dwp_callFunc (by unfold entB; rw [Try.func34]; rfl)
theorem re34 {F : Fr} {S : Hp} {xs : Array Value} : rval Try.prog F (callFunc 34 xs) S = some (.enter 34 xs) := rval_callFunc (by unfold entB; rw [Try.func34]; rfl)
theorem ni34 : Try.prog.inits.idxOf? 34 = none := by kernel_rfl
theorem en35 {F : Fr} {h : Hp} {xs : Array Value} {K : Next → Hp → Prop} : dwp Try.prog F (callFunc 35 xs) h K = K (.enter 35 xs) h := dwp_callFunc (by unfold entB; rw [Try.func35]; rfl)
theorem re35 {F : Fr} {S : Hp} {xs : Array Value} : rval Try.prog F (callFunc 35 xs) S = some (.enter 35 xs) := rval_callFunc (by unfold entB; rw [Try.func35]; rfl)
theorem ni35 : Try.prog.inits.idxOf? 35 = none := by kernel_rfl
theorem en36 {F : Fr} {h : Hp} {xs : Array Value} {K : Next → Hp → Prop} : dwp Try.prog F (callFunc 36 xs) h K = K (.enter 36 xs) h := dwp_callFunc (by unfold entB; rw [Try.func36]; rfl)
theorem re36 {F : Fr} {S : Hp} {xs : Array Value} : rval Try.prog F (callFunc 36 xs) S = some (.enter 36 xs) := rval_callFunc (by unfold entB; rw [Try.func36]; rfl)
theorem ni36 : Try.prog.inits.idxOf? 36 = none := by kernel_rfl
theorem en37 {F : Fr} {h : Hp} {xs : Array Value} {K : Next → Hp → Prop} : dwp Try.prog F (callFunc 37 xs) h K = K (.enter 37 xs) h := dwp_callFunc (by unfold entB; rw [Try.func37]; rfl)
theorem re37 {F : Fr} {S : Hp} {xs : Array Value} : rval Try.prog F (callFunc 37 xs) S = some (.enter 37 xs) := rval_callFunc (by unfold entB; rw [Try.func37]; rfl)
theorem ni37 : Try.prog.inits.idxOf? 37 = none := by kernel_rfl
theorem en38 {F : Fr} {h : Hp} {xs : Array Value} {K : Next → Hp → Prop} : dwp Try.prog F (callFunc 38 xs) h K = K (.enter 38 xs) h := dwp_callFunc (by unfold entB; rw [Try.func38]; rfl)
theorem re38 {F : Fr} {S : Hp} {xs : Array Value} : rval Try.prog F (callFunc 38 xs) S = some (.enter 38 xs) := rval_callFunc (by unfold entB; rw [Try.func38]; rfl)
theorem ni38 : Try.prog.inits.idxOf? 38 = none := by kernel_rfl
theorem en39 {F : Fr} {h : Hp} {xs : Array Value} {K : Next → Hp → Prop} : dwp Try.prog F (callFunc 39 xs) h K = K (.enter 39 xs) h := dwp_callFunc (by unfold entB; rw [Try.func39]; rfl)
theorem re39 {F : Fr} {S : Hp} {xs : Array Value} : rval Try.prog F (callFunc 39 xs) S = some (.enter 39 xs) := rval_callFunc (by unfold entB; rw [Try.func39]; rfl)
theorem ni39 : Try.prog.inits.idxOf? 39 = none := by kernel_rfl
theorem en40 {F : Fr} {h : Hp} {xs : Array Value} {K : Next → Hp → Prop} : dwp Try.prog F (callFunc 40 xs) h K = K (.enter 40 xs) h := dwp_callFunc (by unfold entB; rw [Try.func40]; rfl)
theorem re40 {F : Fr} {S : Hp} {xs : Array Value} : rval Try.prog F (callFunc 40 xs) S = some (.enter 40 xs) := rval_callFunc (by unfold entB; rw [Try.func40]; rfl)
theorem ni40 : Try.prog.inits.idxOf? 40 = none := by kernel_rfl
theorem en41 {F : Fr} {h : Hp} {xs : Array Value} {K : Next → Hp → Prop} : dwp Try.prog F (callFunc 41 xs) h K = K (.enter 41 xs) h := dwp_callFunc (by unfold entB; rw [Try.func41]; rfl)
theorem re41 {F : Fr} {S : Hp} {xs : Array Value} : rval Try.prog F (callFunc 41 xs) S = some (.enter 41 xs) := rval_callFunc (by unfold entB; rw [Try.func41]; rfl)
theorem ni41 : Try.prog.inits.idxOf? 41 = none := by kernel_rfl
theorem en42 {F : Fr} {h : Hp} {xs : Array Value} {K : Next → Hp → Prop} : dwp Try.prog F (callFunc 42 xs) h K = K (.enter 42 xs) h := dwp_callFunc (by unfold entB; rw [Try.func42]; rfl)
theorem re42 {F : Fr} {S : Hp} {xs : Array Value} : rval Try.prog F (callFunc 42 xs) S = some (.enter 42 xs) := rval_callFunc (by unfold entB; rw [Try.func42]; rfl)
theorem ni42 : Try.prog.inits.idxOf? 42 = none := by kernel_rfl
theorem en43 {F : Fr} {h : Hp} {xs : Array Value} {K : Next → Hp → Prop} : dwp Try.prog F (callFunc 43 xs) h K = K (.enter 43 xs) h := dwp_callFunc (by unfold entB; rw [Try.func43]; rfl)
theorem re43 {F : Fr} {S : Hp} {xs : Array Value} : rval Try.prog F (callFunc 43 xs) S = some (.enter 43 xs) := rval_callFunc (by unfold entB; rw [Try.func43]; rfl)
theorem ni43 : Try.prog.inits.idxOf? 43 = none := by kernel_rfl
theorem en44 {F : Fr} {h : Hp} {xs : Array Value} {K : Next → Hp → Prop} : dwp Try.prog F (callFunc 44 xs) h K = K (.enter 44 xs) h := dwp_callFunc (by unfold entB; rw [Try.func44]; rfl)
theorem re44 {F : Fr} {S : Hp} {xs : Array Value} : rval Try.prog F (callFunc 44 xs) S = some (.enter 44 xs) := rval_callFunc (by unfold entB; rw [Try.func44]; rfl)
theorem ni44 : Try.prog.inits.idxOf? 44 = none := by kernel_rfl
theorem en45 {F : Fr} {h : Hp} {xs : Array Value} {K : Next → Hp → Prop} : dwp Try.prog F (callFunc 45 xs) h K = K (.enter 45 xs) h := dwp_callFunc (by unfold entB; rw [Try.func45]; rfl)
theorem re45 {F : Fr} {S : Hp} {xs : Array Value} : rval Try.prog F (callFunc 45 xs) S = some (.enter 45 xs) := rval_callFunc (by unfold entB; rw [Try.func45]; rfl)
theorem ni45 : Try.prog.inits.idxOf? 45 = none := by kernel_rfl
theorem en46 {F : Fr} {h : Hp} {xs : Array Value} {K : Next → Hp → Prop} : dwp Try.prog F (callFunc 46 xs) h K = K (.enter 46 xs) h := dwp_callFunc (by unfold entB; rw [Try.func46]; rfl)
theorem re46 {F : Fr} {S : Hp} {xs : Array Value} : rval Try.prog F (callFunc 46 xs) S = some (.enter 46 xs) := rval_callFunc (by unfold entB; rw [Try.func46]; rfl)
theorem ni46 : Try.prog.inits.idxOf? 46 = none := by kernel_rfl
theorem en47 {F : Fr} {h : Hp} {xs : Array Value} {K : Next → Hp → Prop} : dwp Try.prog F (callFunc 47 xs) h K = K (.enter 47 xs) h := dwp_callFunc (by unfold entB; rw [Try.func47]; rfl)
theorem re47 {F : Fr} {S : Hp} {xs : Array Value} : rval Try.prog F (callFunc 47 xs) S = some (.enter 47 xs) := rval_callFunc (by unfold entB; rw [Try.func47]; rfl)
theorem ni47 : Try.prog.inits.idxOf? 47 = none := by kernel_rfl
theorem en48 {F : Fr} {h : Hp} {xs : Array Value} {K : Next → Hp → Prop} : dwp Try.prog F (callFunc 48 xs) h K = K (.enter 48 xs) h := dwp_callFunc (by unfold entB; rw [Try.func48]; rfl)
theorem re48 {F : Fr} {S : Hp} {xs : Array Value} : rval Try.prog F (callFunc 48 xs) S = some (.enter 48 xs) := rval_callFunc (by unfold entB; rw [Try.func48]; rfl)
theorem ni48 : Try.prog.inits.idxOf? 48 = none := by kernel_rfl
theorem en49 {F : Fr} {h : Hp} {xs : Array Value} {K : Next → Hp → Prop} : dwp Try.prog F (callFunc 49 xs) h K = K (.enter 49 xs) h := dwp_callFunc (by unfold entB; rw [Try.func49]; rfl)
theorem re49 {F : Fr} {S : Hp} {xs : Array Value} : rval Try.prog F (callFunc 49 xs) S = some (.enter 49 xs) := rval_callFunc (by unfold entB; rw [Try.func49]; rfl)
theorem ni49 : Try.prog.inits.idxOf? 49 = none := by kernel_rfl
theorem en50 {F : Fr} {h : Hp} {xs : Array Value} {K : Next → Hp → Prop} : dwp Try.prog F (callFunc 50 xs) h K = K (.enter 50 xs) h := dwp_callFunc (by unfold entB; rw [Try.func50]; rfl)
theorem re50 {F : Fr} {S : Hp} {xs : Array Value} : rval Try.prog F (callFunc 50 xs) S = some (.enter 50 xs) := rval_callFunc (by unfold entB; rw [Try.func50]; rfl)
theorem ni50 : Try.prog.inits.idxOf? 50 = none := by kernel_rfl
theorem en51 {F : Fr} {h : Hp} {xs : Array Value} {K : Next → Hp → Prop} : dwp Try.prog F (callFunc 51 xs) h K = K (.enter 51 xs) h := dwp_callFunc (by unfold entB; rw [Try.func51]; rfl)
theorem re51 {F : Fr} {S : Hp} {xs : Array Value} : rval Try.prog F (callFunc 51 xs) S = some (.enter 51 xs) := rval_callFunc (by unfold entB; rw [Try.func51]; rfl)
theorem ni51 : Try.prog.inits.idxOf? 51 = none := by kernel_rfl
theorem en52 {F : Fr} {h : Hp} {xs : Array Value} {K : Next → Hp → Prop} : dwp Try.prog F (callFunc 52 xs) h K = K (.enter 52 xs) h := dwp_callFunc (by unfold entB; rw [Try.func52]; rfl)
theorem re52 {F : Fr} {S : Hp} {xs : Array Value} : rval Try.prog F (callFunc 52 xs) S = some (.enter 52 xs) := rval_callFunc (by unfold entB; rw [Try.func52]; rfl)
theorem ni52 : Try.prog.inits.idxOf? 52 = none := by kernel_rfl
theorem en53 {F : Fr} {h : Hp} {xs : Array Value} {K : Next → Hp → Prop} : dwp Try.prog F (callFunc 53 xs) h K = K (.enter 53 xs) h := dwp_callFunc (by unfold entB; rw [Try.func53]; rfl)
theorem re53 {F : Fr} {S : Hp} {xs : Array Value} : rval Try.prog F (callFunc 53 xs) S = some (.enter 53 xs) := rval_callFunc (by unfold entB; rw [Try.func53]; rfl)
theorem ni53 : Try.prog.inits.idxOf? 53 = none := by kernel_rfl
theorem en54 {F : Fr} {h : Hp} {xs : Array Value} {K : Next → Hp → Prop} : dwp Try.prog F (callFunc 54 xs) h K = K (.enter 54 xs) h := dwp_callFunc (by unfold entB; rw [Try.func54]; rfl)
theorem re54 {F : Fr} {S : Hp} {xs : Array Value} : rval Try.prog F (callFunc 54 xs) S = some (.enter 54 xs) := rval_callFunc (by unfold entB; rw [Try.func54]; rfl)
theorem ni54 : Try.prog.inits.idxOf? 54 = none := by kernel_rfl
theorem en55 {F : Fr} {h : Hp} {xs : Array Value} {K : Next → Hp → Prop} : dwp Try.prog F (callFunc 55 xs) h K = K (.enter 55 xs) h := dwp_callFunc (by unfold entB; rw [Try.func55]; rfl)
theorem re55 {F : Fr} {S : Hp} {xs : Array Value} : rval Try.prog F (callFunc 55 xs) S = some (.enter 55 xs) := rval_callFunc (by unfold entB; rw [Try.func55]; rfl)
theorem ni55 : Try.prog.inits.idxOf? 55 = none := by kernel_rfl
theorem en56 {F : Fr} {h : Hp} {xs : Array Value} {K : Next → Hp → Prop} : dwp Try.prog F (callFunc 56 xs) h K = K (.enter 56 xs) h := dwp_callFunc (by unfold entB; rw [Try.func56]; rfl)
theorem re56 {F : Fr} {S : Hp} {xs : Array Value} : rval Try.prog F (callFunc 56 xs) S = some (.enter 56 xs) := rval_callFunc (by unfold entB; rw [Try.func56]; rfl)
theorem ni56 : Try.prog.inits.idxOf? 56 = none := by kernel_rfl
theorem en57 {F : Fr} {h : Hp} {xs : Array Value} {K : Next → Hp → Prop} : dwp Try.prog F (callFunc 57 xs) h K = K (.enter 57 xs) h := dwp_callFunc (by unfold entB; rw [Try.func57]; rfl)
theorem re57 {F : Fr} {S : Hp} {xs : Array Value} : rval Try.prog F (callFunc 57 xs) S = some (.enter 57 xs) := rval_callFunc (by unfold entB; rw [Try.func57]; rfl)
theorem ni57 : Try.prog.inits.idxOf? 57 = none := by kernel_rfl
theorem en58 {F : Fr} {h : Hp} {xs : Array Value} {K : Next → Hp → Prop} : dwp Try.prog F (callFunc 58 xs) h K = K (.enter 58 xs) h := dwp_callFunc (by unfold entB; rw [Try.func58]; rfl)
theorem re58 {F : Fr} {S : Hp} {xs : Array Value} : rval Try.prog F (callFunc 58 xs) S = some (.enter 58 xs) := rval_callFunc (by unfold entB; rw [Try.func58]; rfl)
theorem ni58 : Try.prog.inits.idxOf? 58 = none := by kernel_rfl
theorem en59 {F : Fr} {h : Hp} {xs : Array Value} {K : Next → Hp → Prop} : dwp Try.prog F (callFunc 59 xs) h K = K (.enter 59 xs) h := dwp_callFunc (by unfold entB; rw [Try.func59]; rfl)
theorem re59 {F : Fr} {S : Hp} {xs : Array Value} : rval Try.prog F (callFunc 59 xs) S = some (.enter 59 xs) := rval_callFunc (by unfold entB; rw [Try.func59]; rfl)
theorem ni59 : Try.prog.inits.idxOf? 59 = none := by kernel_rfl
theorem en60 {F : Fr} {h : Hp} {xs : Array Value} {K : Next → Hp → Prop} : dwp Try.prog F (callFunc 60 xs) h K = K (.enter 60 xs) h := dwp_callFunc (by unfold entB; rw [Try.func60]; rfl)
theorem re60 {F : Fr} {S : Hp} {xs : Array Value} : rval Try.prog F (callFunc 60 xs) S = some (.enter 60 xs) := rval_callFunc (by unfold entB; rw [Try.func60]; rfl)
theorem ni60 : Try.prog.inits.idxOf? 60 = none := by kernel_rfl
theorem en61 {F : Fr} {h : Hp} {xs : Array Value} {K : Next → Hp → Prop} : dwp Try.prog F (callFunc 61 xs) h K = K (.enter 61 xs) h := dwp_callFunc (by unfold entB; rw [Try.func61]; rfl)
theorem re61 {F : Fr} {S : Hp} {xs : Array Value} : rval Try.prog F (callFunc 61 xs) S = some (.enter 61 xs) := rval_callFunc (by unfold entB; rw [Try.func61]; rfl)
theorem ni61 : Try.prog.inits.idxOf? 61 = none := by kernel_rfl
theorem en62 {F : Fr} {h : Hp} {xs : Array Value} {K : Next → Hp → Prop} : dwp Try.prog F (callFunc 62 xs) h K = K (.enter 62 xs) h := dwp_callFunc (by unfold entB; rw [Try.func62]; rfl)
theorem re62 {F : Fr} {S : Hp} {xs : Array Value} : rval Try.prog F (callFunc 62 xs) S = some (.enter 62 xs) := rval_callFunc (by unfold entB; rw [Try.func62]; rfl)
theorem ni62 : Try.prog.inits.idxOf? 62 = none := by kernel_rfl
theorem en63 {F : Fr} {h : Hp} {xs : Array Value} {K : Next → Hp → Prop} : dwp Try.prog F (callFunc 63 xs) h K = K (.enter 63 xs) h := dwp_callFunc (by unfold entB; rw [Try.func63]; rfl)
theorem re63 {F : Fr} {S : Hp} {xs : Array Value} : rval Try.prog F (callFunc 63 xs) S = some (.enter 63 xs) := rval_callFunc (by unfold entB; rw [Try.func63]; rfl)
theorem ni63 : Try.prog.inits.idxOf? 63 = none := by kernel_rfl
theorem en64 {F : Fr} {h : Hp} {xs : Array Value} {K : Next → Hp → Prop} : dwp Try.prog F (callFunc 64 xs) h K = K (.enter 64 xs) h := dwp_callFunc (by unfold entB; rw [Try.func64]; rfl)
theorem re64 {F : Fr} {S : Hp} {xs : Array Value} : rval Try.prog F (callFunc 64 xs) S = some (.enter 64 xs) := rval_callFunc (by unfold entB; rw [Try.func64]; rfl)
theorem ni64 : Try.prog.inits.idxOf? 64 = none := by kernel_rfl
theorem en65 {F : Fr} {h : Hp} {xs : Array Value} {K : Next → Hp → Prop} : dwp Try.prog F (callFunc 65 xs) h K = K (.enter 65 xs) h := dwp_callFunc (by unfold entB; rw [Try.func65]; rfl)
theorem re65 {F : Fr} {S : Hp} {xs : Array Value} : rval Try.prog F (callFunc 65 xs) S = some (.enter 65 xs) := rval_callFunc (by unfold entB; rw [Try.func65]; rfl)
theorem ni65 : Try.prog.inits.idxOf? 65 = none := by kernel_rfl
theorem en66 {F : Fr} {h : Hp} {xs : Array Value} {K : Next → Hp → Prop} : dwp Try.prog F (callFunc 66 xs) h K = K (.enter 66 xs) h := dwp_callFunc (by unfold entB; rw [Try.func66]; rfl)
theorem re66 {F : Fr} {S : Hp} {xs : Array Value} : rval Try.prog F (callFunc 66 xs) S = some (.enter 66 xs) := rval_callFunc (by unfold entB; rw [Try.func66]; rfl)
theorem ni66 : Try.prog.inits.idxOf? 66 = none := by kernel_rfl
theorem en67 {F : Fr} {h : Hp} {xs : Array Value} {K : Next → Hp → Prop} : dwp Try.prog F (callFunc 67 xs) h K = K (.enter 67 xs) h := dwp_callFunc (by unfold entB; rw [Try.func67]; rfl)
theorem re67 {F : Fr} {S : Hp} {xs : Array Value} : rval Try.prog F (callFunc 67 xs) S = some (.enter 67 xs) := rval_callFunc (by unfold entB; rw [Try.func67]; rfl)
theorem ni67 : Try.prog.inits.idxOf? 67 = none := by kernel_rfl
theorem en68 {F : Fr} {h : Hp} {xs : Array Value} {K : Next → Hp → Prop} : dwp Try.prog F (callFunc 68 xs) h K = K (.enter 68 xs) h := dwp_callFunc (by unfold entB; rw [Try.func68]; rfl)
theorem re68 {F : Fr} {S : Hp} {xs : Array Value} : rval Try.prog F (callFunc 68 xs) S = some (.enter 68 xs) := rval_callFunc (by unfold entB; rw [Try.func68]; rfl)
theorem ni68 : Try.prog.inits.idxOf? 68 = none := by kernel_rfl
theorem en69 {F : Fr} {h : Hp} {xs : Array Value} {K : Next → Hp → Prop} : dwp Try.prog F (callFunc 69 xs) h K = K (.enter 69 xs) h := dwp_callFunc (by unfold entB; rw [Try.func69]; rfl)
theorem re69 {F : Fr} {S : Hp} {xs : Array Value} : rval Try.prog F (callFunc 69 xs) S = some (.enter 69 xs) := rval_callFunc (by unfold entB; rw [Try.func69]; rfl)
theorem ni69 : Try.prog.inits.idxOf? 69 = none := by kernel_rfl
theorem en70 {F : Fr} {h : Hp} {xs : Array Value} {K : Next → Hp → Prop} : dwp Try.prog F (callFunc 70 xs) h K = K (.enter 70 xs) h := dwp_callFunc (by unfold entB; rw [Try.func70]; rfl)
theorem re70 {F : Fr} {S : Hp} {xs : Array Value} : rval Try.prog F (callFunc 70 xs) S = some (.enter 70 xs) := rval_callFunc (by unfold entB; rw [Try.func70]; rfl)
theorem ni70 : Try.prog.inits.idxOf? 70 = none := by kernel_rfl
theorem en71 {F : Fr} {h : Hp} {xs : Array Value} {K : Next → Hp → Prop} : dwp Try.prog F (callFunc 71 xs) h K = K (.enter 71 xs) h := dwp_callFunc (by unfold entB; rw [Try.func71]; rfl)
theorem re71 {F : Fr} {S : Hp} {xs : Array Value} : rval Try.prog F (callFunc 71 xs) S = some (.enter 71 xs) := rval_callFunc (by unfold entB; rw [Try.func71]; rfl)
theorem ni71 : Try.prog.inits.idxOf? 71 = none := by kernel_rfl
theorem en72 {F : Fr} {h : Hp} {xs : Array Value} {K : Next → Hp → Prop} : dwp Try.prog F (callFunc 72 xs) h K = K (.enter 72 xs) h := dwp_callFunc (by unfold entB; rw [Try.func72]; rfl)
theorem re72 {F : Fr} {S : Hp} {xs : Array Value} : rval Try.prog F (callFunc 72 xs) S = some (.enter 72 xs) := rval_callFunc (by unfold entB; rw [Try.func72]; rfl)
theorem ni72 : Try.prog.inits.idxOf? 72 = none := by kernel_rfl
theorem en73 {F : Fr} {h : Hp} {xs : Array Value} {K : Next → Hp → Prop} : dwp Try.prog F (callFunc 73 xs) h K = K (.enter 73 xs) h := dwp_callFunc (by unfold entB; rw [Try.func73]; rfl)
theorem re73 {F : Fr} {S : Hp} {xs : Array Value} : rval Try.prog F (callFunc 73 xs) S = some (.enter 73 xs) := rval_callFunc (by unfold entB; rw [Try.func73]; rfl)
theorem ni73 : Try.prog.inits.idxOf? 73 = none := by kernel_rfl
theorem en74 {F : Fr} {h : Hp} {xs : Array Value} {K : Next → Hp → Prop} : dwp Try.prog F (callFunc 74 xs) h K = K (.enter 74 xs) h := dwp_callFunc (by unfold entB; rw [Try.func74]; rfl)
theorem re74 {F : Fr} {S : Hp} {xs : Array Value} : rval Try.prog F (callFunc 74 xs) S = some (.enter 74 xs) := rval_callFunc (by unfold entB; rw [Try.func74]; rfl)
theorem ni74 : Try.prog.inits.idxOf? 74 = none := by kernel_rfl
theorem en75 {F : Fr} {h : Hp} {xs : Array Value} {K : Next → Hp → Prop} : dwp Try.prog F (callFunc 75 xs) h K = K (.enter 75 xs) h := dwp_callFunc (by unfold entB; rw [Try.func75]; rfl)
theorem re75 {F : Fr} {S : Hp} {xs : Array Value} : rval Try.prog F (callFunc 75 xs) S = some (.enter 75 xs) := rval_callFunc (by unfold entB; rw [Try.func75]; rfl)
theorem ni75 : Try.prog.inits.idxOf? 75 = none := by kernel_rfl
theorem en76 {F : Fr} {h : Hp} {xs : Array Value} {K : Next → Hp → Prop} : dwp Try.prog F (callFunc 76 xs) h K = K (.enter 76 xs) h := dwp_callFunc (by unfold entB; rw [Try.func76]; rfl)
theorem re76 {F : Fr} {S : Hp} {xs : Array Value} : rval Try.prog F (callFunc 76 xs) S = some (.enter 76 xs) := rval_callFunc (by unfold entB; rw [Try.func76]; rfl)
theorem ni76 : Try.prog.inits.idxOf? 76 = none := by kernel_rfl
theorem en77 {F : Fr} {h : Hp} {xs : Array Value} {K : Next → Hp → Prop} : dwp Try.prog F (callFunc 77 xs) h K = K (.enter 77 xs) h := dwp_callFunc (by unfold entB; rw [Try.func77]; rfl)
theorem re77 {F : Fr} {S : Hp} {xs : Array Value} : rval Try.prog F (callFunc 77 xs) S = some (.enter 77 xs) := rval_callFunc (by unfold entB; rw [Try.func77]; rfl)
theorem ni77 : Try.prog.inits.idxOf? 77 = none := by kernel_rfl
theorem en78 {F : Fr} {h : Hp} {xs : Array Value} {K : Next → Hp → Prop} : dwp Try.prog F (callFunc 78 xs) h K = K (.enter 78 xs) h := dwp_callFunc (by unfold entB; rw [Try.func78]; rfl)
theorem re78 {F : Fr} {S : Hp} {xs : Array Value} : rval Try.prog F (callFunc 78 xs) S = some (.enter 78 xs) := rval_callFunc (by unfold entB; rw [Try.func78]; rfl)
theorem ni78 : Try.prog.inits.idxOf? 78 = none := by kernel_rfl
theorem en79 {F : Fr} {h : Hp} {xs : Array Value} {K : Next → Hp → Prop} : dwp Try.prog F (callFunc 79 xs) h K = K (.enter 79 xs) h := dwp_callFunc (by unfold entB; rw [Try.func79]; rfl)
theorem re79 {F : Fr} {S : Hp} {xs : Array Value} : rval Try.prog F (callFunc 79 xs) S = some (.enter 79 xs) := rval_callFunc (by unfold entB; rw [Try.func79]; rfl)
theorem ni79 : Try.prog.inits.idxOf? 79 = none := by kernel_rfl
theorem en80 {F : Fr} {h : Hp} {xs : Array Value} {K : Next → Hp → Prop} : dwp Try.prog F (callFunc 80 xs) h K = K (.enter 80 xs) h := dwp_callFunc (by unfold entB; rw [Try.func80]; rfl)
theorem re80 {F : Fr} {S : Hp} {xs : Array Value} : rval Try.prog F (callFunc 80 xs) S = some (.enter 80 xs) := rval_callFunc (by unfold entB; rw [Try.func80]; rfl)
theorem ni80 : Try.prog.inits.idxOf? 80 = none := by kernel_rfl
theorem en81 {F : Fr} {h : Hp} {xs : Array Value} {K : Next → Hp → Prop} : dwp Try.prog F (callFunc 81 xs) h K = K (.enter 81 xs) h := dwp_callFunc (by unfold entB; rw [Try.func81]; rfl)
theorem re81 {F : Fr} {S : Hp} {xs : Array Value} : rval Try.prog F (callFunc 81 xs) S = some (.enter 81 xs) := rval_callFunc (by unfold entB; rw [Try.func81]; rfl)
theorem ni81 : Try.prog.inits.idxOf? 81 = none := by kernel_rfl
theorem en82 {F : Fr} {h : Hp} {xs : Array Value} {K : Next → Hp → Prop} : dwp Try.prog F (callFunc 82 xs) h K = K (.enter 82 xs) h := dwp_callFunc (by unfold entB; rw [Try.func82]; rfl)
theorem re82 {F : Fr} {S : Hp} {xs : Array Value} : rval Try.prog F (callFunc 82 xs) S = some (.enter 82 xs) := rval_callFunc (by unfold entB; rw [Try.func82]; rfl)
theorem ni82 : Try.prog.inits.idxOf? 82 = none := by kernel_rfl
theorem en83 {F : Fr} {h : Hp} {xs : Array Value} {K : Next → Hp → Prop} : dwp Try.prog F (callFunc 83 xs) h K = K (.enter 83 xs) h := dwp_callFunc (by unfold entB; rw [Try.func83]; rfl)
theorem re83 {F : Fr} {S : Hp} {xs : Array Value} : rval Try.prog F (callFunc 83 xs) S = some (.enter 83 xs) := rval_callFunc (by unfold entB; rw [Try.func83]; rfl)
theorem ni83 : Try.prog.inits.idxOf? 83 = none := by kernel_rfl
theorem en84 {F : Fr} {h : Hp} {xs : Array Value} {K : Next → Hp → Prop} : dwp Try.prog F (callFunc 84 xs) h K = K (.enter 84 xs) h := dwp_callFunc (by unfold entB; rw [Try.func84]; rfl)
theorem re84 {F : Fr} {S : Hp} {xs : Array Value} : rval Try.prog F (callFunc 84 xs) S = some (.enter 84 xs) := rval_callFunc (by unfold entB; rw [Try.func84]; rfl)
theorem ni84 : Try.prog.inits.idxOf? 84 = none := by kernel_rfl
theorem en85 {F : Fr} {h : Hp} {xs : Array Value} {K : Next → Hp → Prop} : dwp Try.prog F (callFunc 85 xs) h K = K (.enter 85 xs) h := dwp_callFunc (by unfold entB; rw [Try.func85]; rfl)
theorem re85 {F : Fr} {S : Hp} {xs : Array Value} : rval Try.prog F (callFunc 85 xs) S = some (.enter 85 xs) := rval_callFunc (by unfold entB; rw [Try.func85]; rfl)
theorem ni85 : Try.prog.inits.idxOf? 85 = none := by kernel_rfl
theorem en86 {F : Fr} {h : Hp} {xs : Array Value} {K : Next → Hp → Prop} : dwp Try.prog F (callFunc 86 xs) h K = K (.enter 86 xs) h := dwp_callFunc (by unfold entB; rw [Try.func86]; rfl)
theorem re86 {F : Fr} {S : Hp} {xs : Array Value} : rval Try.prog F (callFunc 86 xs) S = some (.enter 86 xs) := rval_callFunc (by unfold entB; rw [Try.func86]; rfl)
theorem ni86 : Try.prog.inits.idxOf? 86 = none := by kernel_rfl
theorem en87 {F : Fr} {h : Hp} {xs : Array Value} {K : Next → Hp → Prop} : dwp Try.prog F (callFunc 87 xs) h K = K (.enter 87 xs) h := dwp_callFunc (by unfold entB; rw [Try.func87]; rfl)
theorem re87 {F : Fr} {S : Hp} {xs : Array Value} : rval Try.prog F (callFunc 87 xs) S = some (.enter 87 xs) := rval_callFunc (by unfold entB; rw [Try.func87]; rfl)
theorem ni87 : Try.prog.inits.idxOf? 87 = none := by kernel_rfl
theorem en88 {F : Fr} {h : Hp} {xs : Array Value} {K : Next → Hp → Prop} : dwp Try.prog F (callFunc 88 xs) h K = K (.enter 88 xs) h := dwp_callFunc (by unfold entB; rw [Try.func88]; rfl)
theorem re88 {F : Fr} {S : Hp} {xs : Array Value} : rval Try.prog F (callFunc 88 xs) S = some (.enter 88 xs) := rval_callFunc (by unfold entB; rw [Try.func88]; rfl)
theorem ni88 : Try.prog.inits.idxOf? 88 = none := by kernel_rfl
theorem en89 {F : Fr} {h : Hp} {xs : Array Value} {K : Next → Hp → Prop} : dwp Try.prog F (callFunc 89 xs) h K = K (.enter 89 xs) h := dwp_callFunc (by unfold entB; rw [Try.func89]; rfl)
theorem re89 {F : Fr} {S : Hp} {xs : Array Value} : rval Try.prog F (callFunc 89 xs) S = some (.enter 89 xs) := rval_callFunc (by unfold entB; rw [Try.func89]; rfl)
theorem ni89 : Try.prog.inits.idxOf? 89 = none := by kernel_rfl
theorem en90 {F : Fr} {h : Hp} {xs : Array Value} {K : Next → Hp → Prop} : dwp Try.prog F (callFunc 90 xs) h K = K (.enter 90 xs) h := dwp_callFunc (by unfold entB; rw [Try.func90]; rfl)
theorem re90 {F : Fr} {S : Hp} {xs : Array Value} : rval Try.prog F (callFunc 90 xs) S = some (.enter 90 xs) := rval_callFunc (by unfold entB; rw [Try.func90]; rfl)
theorem ni90 : Try.prog.inits.idxOf? 90 = none := by kernel_rfl
theorem en91 {F : Fr} {h : Hp} {xs : Array Value} {K : Next → Hp → Prop} : dwp Try.prog F (callFunc 91 xs) h K = K (.enter 91 xs) h := dwp_callFunc (by unfold entB; rw [Try.func91]; rfl)
theorem re91 {F : Fr} {S : Hp} {xs : Array Value} : rval Try.prog F (callFunc 91 xs) S = some (.enter 91 xs) := rval_callFunc (by unfold entB; rw [Try.func91]; rfl)
theorem ni91 : Try.prog.inits.idxOf? 91 = none := by kernel_rfl
theorem en92 {F : Fr} {h : Hp} {xs : Array Value} {K : Next → Hp → Prop} : dwp Try.prog F (callFunc 92 xs) h K = K (.enter 92 xs) h := dwp_callFunc (by unfold entB; rw [Try.func92]; rfl)
theorem re92 {F : Fr} {S : Hp} {xs : Array Value} : rval Try.prog F (callFunc 92 xs) S = some (.enter 92 xs) := rval_callFunc (by unfold entB; rw [Try.func92]; rfl)
theorem ni92 : Try.prog.inits.idxOf? 92 = none := by kernel_rfl
theorem en93 {F : Fr} {h : Hp} {xs : Array Value} {K : Next → Hp → Prop} : dwp Try.prog F (callFunc 93 xs) h K = K (.enter 93 xs) h := dwp_callFunc (by unfold entB; rw [Try.func93]; rfl)
theorem re93 {F : Fr} {S : Hp} {xs : Array Value} : rval Try.prog F (callFunc 93 xs) S = some (.enter 93 xs) := rval_callFunc (by unfold entB; rw [Try.func93]; rfl)
theorem ni93 : Try.prog.inits.idxOf? 93 = none := by kernel_rfl
theorem en94 {F : Fr} {h : Hp} {xs : Array Value} {K : Next → Hp → Prop} : dwp Try.prog F (callFunc 94 xs) h K = K (.enter 94 xs) h := dwp_callFunc (by unfold entB; rw [Try.func94]; rfl)
theorem re94 {F : Fr} {S : Hp} {xs : Array Value} : rval Try.prog F (callFunc 94 xs) S = some (.enter 94 xs) := rval_callFunc (by unfold entB; rw [Try.func94]; rfl)
theorem ni94 : Try.prog.inits.idxOf? 94 = none := by kernel_rfl
theorem en95 {F : Fr} {h : Hp} {xs : Array Value} {K : Next → Hp → Prop} : dwp Try.prog F (callFunc 95 xs) h K = K (.enter 95 xs) h := dwp_callFunc (by unfold entB; rw [Try.func95]; rfl)
theorem re95 {F : Fr} {S : Hp} {xs : Array Value} : rval Try.prog F (callFunc 95 xs) S = some (.enter 95 xs) := rval_callFunc (by unfold entB; rw [Try.func95]; rfl)
theorem ni95 : Try.prog.inits.idxOf? 95 = none := by kernel_rfl
theorem en96 {F : Fr} {h : Hp} {xs : Array Value} {K : Next → Hp → Prop} : dwp Try.prog F (callFunc 96 xs) h K = K (.enter 96 xs) h := dwp_callFunc (by unfold entB; rw [Try.func96]; rfl)
theorem re96 {F : Fr} {S : Hp} {xs : Array Value} : rval Try.prog F (callFunc 96 xs) S = some (.enter 96 xs) := rval_callFunc (by unfold entB; rw [Try.func96]; rfl)
theorem ni96 : Try.prog.inits.idxOf? 96 = none := by kernel_rfl
theorem en97 {F : Fr} {h : Hp} {xs : Array Value} {K : Next → Hp → Prop} : dwp Try.prog F (callFunc 97 xs) h K = K (.enter 97 xs) h := dwp_callFunc (by unfold entB; rw [Try.func97]; rfl)
theorem re97 {F : Fr} {S : Hp} {xs : Array Value} : rval Try.prog F (callFunc 97 xs) S = some (.enter 97 xs) := rval_callFunc (by unfold entB; rw [Try.func97]; rfl)
theorem ni97 : Try.prog.inits.idxOf? 97 = none := by kernel_rfl
theorem en98 {F : Fr} {h : Hp} {xs : Array Value} {K : Next → Hp → Prop} : dwp Try.prog F (callFunc 98 xs) h K = K (.enter 98 xs) h := dwp_callFunc (by unfold entB; rw [Try.func98]; rfl)
theorem re98 {F : Fr} {S : Hp} {xs : Array Value} : rval Try.prog F (callFunc 98 xs) S = some (.enter 98 xs) := rval_callFunc (by unfold entB; rw [Try.func98]; rfl)
theorem ni98 : Try.prog.inits.idxOf? 98 = none := by kernel_rfl
theorem en99 {F : Fr} {h : Hp} {xs : Array Value} {K : Next → Hp → Prop} : dwp Try.prog F (callFunc 99 xs) h K = K (.enter 99 xs) h := dwp_callFunc (by unfold entB; rw [Try.func99]; rfl)
theorem re99 {F : Fr} {S : Hp} {xs : Array Value} : rval Try.prog F (callFunc 99 xs) S = some (.enter 99 xs) := rval_callFunc (by unfold entB; rw [Try.func99]; rfl)
theorem ni99 : Try.prog.inits.idxOf? 99 = none := by kernel_rfl
theorem en100 {F : Fr} {h : Hp} {xs : Array Value} {K : Next → Hp → Prop} : dwp Try.prog F (callFunc 100 xs) h K = K (.enter 100 xs) h := dwp_callFunc (by unfold entB; rw [Try.func100]; rfl)
theorem re100 {F : Fr} {S : Hp} {xs : Array Value} : rval Try.prog F (callFunc 100 xs) S = some (.enter 100 xs) := rval_callFunc (by unfold entB; rw [Try.func100]; rfl)
theorem ni100 : Try.prog.inits.idxOf? 100 = none := by kernel_rfl
theorem en101 {F : Fr} {h : Hp} {xs : Array Value} {K : Next → Hp → Prop} : dwp Try.prog F (callFunc 101 xs) h K = K (.enter 101 xs) h := dwp_callFunc (by unfold entB; rw [Try.func101]; rfl)
theorem re101 {F : Fr} {S : Hp} {xs : Array Value} : rval Try.prog F (callFunc 101 xs) S = some (.enter 101 xs) := rval_callFunc (by unfold entB; rw [Try.func101]; rfl)
theorem ni101 : Try.prog.inits.idxOf? 101 = none := by kernel_rfl
theorem en102 {F : Fr} {h : Hp} {xs : Array Value} {K : Next → Hp → Prop} : dwp Try.prog F (callFunc 102 xs) h K = K (.enter 102 xs) h := dwp_callFunc (by unfold entB; rw [Try.func102]; rfl)
theorem re102 {F : Fr} {S : Hp} {xs : Array Value} : rval Try.prog F (callFunc 102 xs) S = some (.enter 102 xs) := rval_callFunc (by unfold entB; rw [Try.func102]; rfl)
theorem ni102 : Try.prog.inits.idxOf? 102 = none := by kernel_rfl
theorem en103 {F : Fr} {h : Hp} {xs : Array Value} {K : Next → Hp → Prop} : dwp Try.prog F (callFunc 103 xs) h K = K (.enter 103 xs) h := dwp_callFunc (by unfold entB; rw [Try.func103]; rfl)
theorem re103 {F : Fr} {S : Hp} {xs : Array Value} : rval Try.prog F (callFunc 103 xs) S = some (.enter 103 xs) := rval_callFunc (by unfold entB; rw [Try.func103]; rfl)
theorem ni103 : Try.prog.inits.idxOf? 103 = none := by kernel_rfl
theorem en104 {F : Fr} {h : Hp} {xs : Array Value} {K : Next → Hp → Prop} : dwp Try.prog F (callFunc 104 xs) h K = K (.enter 104 xs) h := dwp_callFunc (by unfold entB; rw [Try.func104]; rfl)
theorem re104 {F : Fr} {S : Hp} {xs : Array Value} : rval Try.prog F (callFunc 104 xs) S = some (.enter 104 xs) := rval_callFunc (by unfold entB; rw [Try.func104]; rfl)
theorem ni104 : Try.prog.inits.idxOf? 104 = none := by kernel_rfl
theorem en105 {F : Fr} {h : Hp} {xs : Array Value} {K : Next → Hp → Prop} : dwp Try.prog F (callFunc 105 xs) h K = K (.enter 105 xs) h := dwp_callFunc (by unfold entB; rw [Try.func105]; rfl)
theorem re105 {F : Fr} {S : Hp} {xs : Array Value} : rval Try.prog F (callFunc 105 xs) S = some (.enter 105 xs) := rval_callFunc (by unfold entB; rw [Try.func105]; rfl)
theorem ni105 : Try.prog.inits.idxOf? 105 = none := by kernel_rfl
theorem en106 {F : Fr} {h : Hp} {xs : Array Value} {K : Next → Hp → Prop} : dwp Try.prog F (callFunc 106 xs) h K = K (.enter 106 xs) h := dwp_callFunc (by unfold entB; rw [Try.func106]; rfl)
theorem re106 {F : Fr} {S : Hp} {xs : Array Value} : rval Try.prog F (callFunc 106 xs) S = some (.enter 106 xs) := rval_callFunc (by unfold entB; rw [Try.func106]; rfl)
theorem ni106 : Try.prog.inits.idxOf? 106 = none := by kernel_rfl
theorem en107 {F : Fr} {h : Hp} {xs : Array Value} {K : Next → Hp → Prop} : dwp Try.prog F (callFunc 107 xs) h K = K (.enter 107 xs) h := dwp_callFunc (by unfold entB; rw [Try.func107]; rfl)
theorem re107 {F : Fr} {S : Hp} {xs : Array Value} : rval Try.prog F (callFunc 107 xs) S = some (.enter 107 xs) := rval_callFunc (by unfold entB; rw [Try.func107]; rfl)
theorem ni107 : Try.prog.inits.idxOf? 107 = none := by kernel_rfl
theorem en108 {F : Fr} {h : Hp} {xs : Array Value} {K : Next → Hp → Prop} : dwp Try.prog F (callFunc 108 xs) h K = K (.enter 108 xs) h := dwp_callFunc (by unfold entB; rw [Try.func108]; rfl)
theorem re108 {F : Fr} {S : Hp} {xs : Array Value} : rval Try.prog F (callFunc 108 xs) S = some (.enter 108 xs) := rval_callFunc (by unfold entB; rw [Try.func108]; rfl)
theorem ni108 : Try.prog.inits.idxOf? 108 = none := by kernel_rfl
theorem en109 {F : Fr} {h : Hp} {xs : Array Value} {K : Next → Hp → Prop} : dwp Try.prog F (callFunc 109 xs) h K = K (.enter 109 xs) h := dwp_callFunc (by unfold entB; rw [Try.func109]; rfl)
theorem re109 {F : Fr} {S : Hp} {xs : Array Value} : rval Try.prog F (callFunc 109 xs) S = some (.enter 109 xs) := rval_callFunc (by unfold entB; rw [Try.func109]; rfl)
theorem ni109 : Try.prog.inits.idxOf? 109 = none := by kernel_rfl
theorem en110 {F : Fr} {h : Hp} {xs : Array Value} {K : Next → Hp → Prop} : dwp Try.prog F (callFunc 110 xs) h K = K (.enter 110 xs) h := dwp_callFunc (by unfold entB; rw [Try.func110]; rfl)
theorem re110 {F : Fr} {S : Hp} {xs : Array Value} : rval Try.prog F (callFunc 110 xs) S = some (.enter 110 xs) := rval_callFunc (by unfold entB; rw [Try.func110]; rfl)
theorem ni110 : Try.prog.inits.idxOf? 110 = none := by kernel_rfl
theorem en111 {F : Fr} {h : Hp} {xs : Array Value} {K : Next → Hp → Prop} : dwp Try.prog F (callFunc 111 xs) h K = K (.enter 111 xs) h := dwp_callFunc (by unfold entB; rw [Try.func111]; rfl)
theorem re111 {F : Fr} {S : Hp} {xs : Array Value} : rval Try.prog F (callFunc 111 xs) S = some (.enter 111 xs) := rval_callFunc (by unfold entB; rw [Try.func111]; rfl)
theorem ni111 : Try.prog.inits.idxOf? 111 = none := by kernel_rfl
theorem en112 {F : Fr} {h : Hp} {xs : Array Value} {K : Next → Hp → Prop} : dwp Try.prog F (callFunc 112 xs) h K = K (.enter 112 xs) h := dwp_callFunc (by unfold entB; rw [Try.func112]; rfl)
theorem re112 {F : Fr} {S : Hp} {xs : Array Value} : rval Try.prog F (callFunc 112 xs) S = some (.enter 112 xs) := rval_callFunc (by unfold entB; rw [Try.func112]; rfl)
theorem ni112 : Try.prog.inits.idxOf? 112 = none := by kernel_rfl
theorem en113 {F : Fr} {h : Hp} {xs : Array Value} {K : Next → Hp → Prop} : dwp Try.prog F (callFunc 113 xs) h K = K (.enter 113 xs) h := dwp_callFunc (by unfold entB; rw [Try.func113]; rfl)
theorem re113 {F : Fr} {S : Hp} {xs : Array Value} : rval Try.prog F (callFunc 113 xs) S = some (.enter 113 xs) := rval_callFunc (by unfold entB; rw [Try.func113]; rfl)
theorem ni113 : Try.prog.inits.idxOf? 113 = none := by kernel_rfl
theorem en114 {F : Fr} {h : Hp} {xs : Array Value} {K : Next → Hp → Prop} : dwp Try.prog F (callFunc 114 xs) h K = K (.enter 114 xs) h := dwp_callFunc (by unfold entB; rw [Try.func114]; rfl)
theorem re114 {F : Fr} {S : Hp} {xs : Array Value} : rval Try.prog F (callFunc 114 xs) S = some (.enter 114 xs) := rval_callFunc (by unfold entB; rw [Try.func114]; rfl)
theorem ni114 : Try.prog.inits.idxOf? 114 = none := by kernel_rfl
theorem en115 {F : Fr} {h : Hp} {xs : Array Value} {K : Next → Hp → Prop} : dwp Try.prog F (callFunc 115 xs) h K = K (.enter 115 xs) h := dwp_callFunc (by unfold entB; rw [Try.func115]; rfl)
theorem re115 {F : Fr} {S : Hp} {xs : Array Value} : rval Try.prog F (callFunc 115 xs) S = some (.enter 115 xs) := rval_callFunc (by unfold entB; rw [Try.func115]; rfl)
theorem ni115 : Try.prog.inits.idxOf? 115 = none := by kernel_rfl
theorem en116 {F : Fr} {h : Hp} {xs : Array Value} {K : Next → Hp → Prop} : dwp Try.prog F (callFunc 116 xs) h K = K (.enter 116 xs) h := dwp_callFunc (by unfold entB; rw [Try.func116]; rfl)
theorem re116 {F : Fr} {S : Hp} {xs : Array Value} : rval Try.prog F (callFunc 116 xs) S = some (.enter 116 xs) := rval_callFunc (by unfold entB; rw [Try.func116]; rfl)
theorem ni116 : Try.prog.inits.idxOf? 116 = none := by kernel_rfl
theorem en117 {F : Fr} {h : Hp} {xs : Array Value} {K : Next → Hp → Prop} : dwp Try.prog F (callFunc 117 xs) h K = K (.enter 117 xs) h := dwp_callFunc (by unfold entB; rw [Try.func117]; rfl)
theorem re117 {F : Fr} {S : Hp} {xs : Array Value} : rval Try.prog F (callFunc 117 xs) S = some (.enter 117 xs) := rval_callFunc (by unfold entB; rw [Try.func117]; rfl)
theorem ni117 : Try.prog.inits.idxOf? 117 = none := by kernel_rfl
theorem en118 {F : Fr} {h : Hp} {xs : Array Value} {K : Next → Hp → Prop} : dwp Try.prog F (callFunc 118 xs) h K = K (.enter 118 xs) h := dwp_callFunc (by unfold entB; rw [Try.func118]; rfl)
theorem re118 {F : Fr} {S : Hp} {xs : Array Value} : rval Try.prog F (callFunc 118 xs) S = some (.enter 118 xs) := rval_callFunc (by unfold entB; rw [Try.func118]; rfl)
theorem ni118 : Try.prog.inits.idxOf? 118 = none := by kernel_rfl
theorem en119 {F : Fr} {h : Hp} {xs : Array Value} {K : Next → Hp → Prop} : dwp Try.prog F (callFunc 119 xs) h K = K (.enter 119 xs) h := dwp_callFunc (by unfold entB; rw [Try.func119]; rfl)
theorem re119 {F : Fr} {S : Hp} {xs : Array Value} : rval Try.prog F (callFunc 119 xs) S = some (.enter 119 xs) := rval_callFunc (by unfold entB; rw [Try.func119]; rfl)
theorem ni119 : Try.prog.inits.idxOf? 119 = none := by kernel_rfl
theorem en120 {F : Fr} {h : Hp} {xs : Array Value} {K : Next → Hp → Prop} : dwp Try.prog F (callFunc 120 xs) h K = K (.enter 120 xs) h := dwp_callFunc (by unfold entB; rw [Try.func120]; rfl)
theorem re120 {F : Fr} {S : Hp} {xs : Array Value} : rval Try.prog F (callFunc 120 xs) S = some (.enter 120 xs) := rval_callFunc (by unfold entB; rw [Try.func120]; rfl)
theorem ni120 : Try.prog.inits.idxOf? 120 = none := by kernel_rfl
theorem en121 {F : Fr} {h : Hp} {xs : Array Value} {K : Next → Hp → Prop} : dwp Try.prog F (callFunc 121 xs) h K = K (.enter 121 xs) h := dwp_callFunc (by unfold entB; rw [Try.func121]; rfl)
theorem re121 {F : Fr} {S : Hp} {xs : Array Value} : rval Try.prog F (callFunc 121 xs) S = some (.enter 121 xs) := rval_callFunc (by unfold entB; rw [Try.func121]; rfl)
theorem ni121 : Try.prog.inits.idxOf? 121 = none := by kernel_rfl
theorem en122 {F : Fr} {h : Hp} {xs : Array Value} {K : Next → Hp → Prop} : dwp Try.prog F (callFunc 122 xs) h K = K (.enter 122 xs) h := dwp_callFunc (by unfold entB; rw [Try.func122]; rfl)
theorem re122 {F : Fr} {S : Hp} {xs : Array Value} : rval Try.prog F (callFunc 122 xs) S = some (.enter 122 xs) := rval_callFunc (by unfold entB; rw [Try.func122]; rfl)
theorem ni122 : Try.prog.inits.idxOf? 122 = none := by kernel_rfl
theorem en123 {F : Fr} {h : Hp} {xs : Array Value} {K : Next → Hp → Prop} : dwp Try.prog F (callFunc 123 xs) h K = K (.enter 123 xs) h := dwp_callFunc (by unfold entB; rw [Try.func123]; rfl)
theorem re123 {F : Fr} {S : Hp} {xs : Array Value} : rval Try.prog F (callFunc 123 xs) S = some (.enter 123 xs) := rval_callFunc (by unfold entB; rw [Try.func123]; rfl)
theorem ni123 : Try.prog.inits.idxOf? 123 = none := by kernel_rfl
theorem en124 {F : Fr} {h : Hp} {xs : Array Value} {K : Next → Hp → Prop} : dwp Try.prog F (callFunc 124 xs) h K = K (.enter 124 xs) h := dwp_callFunc (by unfold entB; rw [Try.func124]; rfl)
theorem re124 {F : Fr} {S : Hp} {xs : Array Value} : rval Try.prog F (callFunc 124 xs) S = some (.enter 124 xs) := rval_callFunc (by unfold entB; rw [Try.func124]; rfl)
theorem ni124 : Try.prog.inits.idxOf? 124 = none := by kernel_rfl
theorem en125 {F : Fr} {h : Hp} {xs : Array Value} {K : Next → Hp → Prop} : dwp Try.prog F (callFunc 125 xs) h K = K (.enter 125 xs) h := dwp_callFunc (by unfold entB; rw [Try.func125]; rfl)
theorem re125 {F : Fr} {S : Hp} {xs : Array Value} : rval Try.prog F (callFunc 125 xs) S = some (.enter 125 xs) := rval_callFunc (by unfold entB; rw [Try.func125]; rfl)
theorem ni125 : Try.prog.inits.idxOf? 125 = none := by kernel_rfl
theorem en126 {F : Fr} {h : Hp} {xs : Array Value} {K : Next → Hp → Prop} : dwp Try.prog F (callFunc 126 xs) h K = K (.enter 126 xs) h := dwp_callFunc (by unfold entB; rw [Try.func126]; rfl)
theorem re126 {F : Fr} {S : Hp} {xs : Array Value} : rval Try.prog F (callFunc 126 xs) S = some (.enter 126 xs) := rval_callFunc (by unfold entB; rw [Try.func126]; rfl)
theorem ni126 : Try.prog.inits.idxOf? 126 = none := by kernel_rfl
theorem en127 {F : Fr} {h : Hp} {xs : Array Value} {K : Next → Hp → Prop} : dwp Try.prog F (callFunc 127 xs) h K = K (.enter 127 xs) h := dwp_callFunc (by unfold entB; rw [Try.func127]; rfl)
theorem re127 {F : Fr} {S : Hp} {xs : Array Value} : rval Try.prog F (callFunc 127 xs) S = some (.enter 127 xs) := rval_callFunc (by unfold entB; rw [Try.func127]; rfl)
theorem ni127 : Try.prog.inits.idxOf? 127 = none := by kernel_rfl
theorem en128 {F : Fr} {h : Hp} {xs : Array Value} {K : Next → Hp → Prop} : dwp Try.prog F (callFunc 128 xs) h K = K (.enter 128 xs) h := dwp_callFunc (by unfold entB; rw [Try.func128]; rfl)
theorem re128 {F : Fr} {S : Hp} {xs : Array Value} : rval Try.prog F (callFunc 128 xs) S = some (.enter 128 xs) := rval_callFunc (by unfold entB; rw [Try.func128]; rfl)
theorem ni128 : Try.prog.inits.idxOf? 128 = none := by kernel_rfl
theorem en129 {F : Fr} {h : Hp} {xs : Array Value} {K : Next → Hp → Prop} : dwp Try.prog F (callFunc 129 xs) h K = K (.enter 129 xs) h := dwp_callFunc (by unfold entB; rw [Try.func129]; rfl)
theorem re129 {F : Fr} {S : Hp} {xs : Array Value} : rval Try.prog F (callFunc 129 xs) S = some (.enter 129 xs) := rval_callFunc (by unfold entB; rw [Try.func129]; rfl)
theorem ni129 : Try.prog.inits.idxOf? 129 = none := by kernel_rfl
theorem en130 {F : Fr} {h : Hp} {xs : Array Value} {K : Next → Hp → Prop} : dwp Try.prog F (callFunc 130 xs) h K = K (.enter 130 xs) h := dwp_callFunc (by unfold entB; rw [Try.func130]; rfl)
theorem re130 {F : Fr} {S : Hp} {xs : Array Value} : rval Try.prog F (callFunc 130 xs) S = some (.enter 130 xs) := rval_callFunc (by unfold entB; rw [Try.func130]; rfl)
theorem ni130 : Try.prog.inits.idxOf? 130 = none := by kernel_rfl
theorem en131 {F : Fr} {h : Hp} {xs : Array Value} {K : Next → Hp → Prop} : dwp Try.prog F (callFunc 131 xs) h K = K (.enter 131 xs) h := dwp_callFunc (by unfold entB; rw [Try.func131]; rfl)
theorem re131 {F : Fr} {S : Hp} {xs : Array Value} : rval Try.prog F (callFunc 131 xs) S = some (.enter 131 xs) := rval_callFunc (by unfold entB; rw [Try.func131]; rfl)
theorem ni131 : Try.prog.inits.idxOf? 131 = none := by kernel_rfl
theorem en132 {F : Fr} {h : Hp} {xs : Array Value} {K : Next → Hp → Prop} : dwp Try.prog F (callFunc 132 xs) h K = K (.enter 132 xs) h := dwp_callFunc (by unfold entB; rw [Try.func132]; rfl)
theorem re132 {F : Fr} {S : Hp} {xs : Array Value} : rval Try.prog F (callFunc 132 xs) S = some (.enter 132 xs) := rval_callFunc (by unfold entB; rw [Try.func132]; rfl)
theorem ni132 : Try.prog.inits.idxOf? 132 = none := by kernel_rfl
theorem en133 {F : Fr} {h : Hp} {xs : Array Value} {K : Next → Hp → Prop} : dwp Try.prog F (callFunc 133 xs) h K = K (.enter 133 xs) h := dwp_callFunc (by unfold entB; rw [Try.func133]; rfl)
theorem re133 {F : Fr} {S : Hp} {xs : Array Value} : rval Try.prog F (callFunc 133 xs) S = some (.enter 133 xs) := rval_callFunc (by unfold entB; rw [Try.func133]; rfl)
theorem ni133 : Try.prog.inits.idxOf? 133 = none := by kernel_rfl
theorem en134 {F : Fr} {h : Hp} {xs : Array Value} {K : Next → Hp → Prop} : dwp Try.prog F (callFunc 134 xs) h K = K (.enter 134 xs) h := dwp_callFunc (by unfold entB; rw [Try.func134]; rfl)
theorem re134 {F : Fr} {S : Hp} {xs : Array Value} : rval Try.prog F (callFunc 134 xs) S = some (.enter 134 xs) := rval_callFunc (by unfold entB; rw [Try.func134]; rfl)
theorem ni134 : Try.prog.inits.idxOf? 134 = none := by kernel_rfl
theorem en135 {F : Fr} {h : Hp} {xs : Array Value} {K : Next → Hp → Prop} : dwp Try.prog F (callFunc 135 xs) h K = K (.enter 135 xs) h := dwp_callFunc (by unfold entB; rw [Try.func135]; rfl)
theorem re135 {F : Fr} {S : Hp} {xs : Array Value} : rval Try.prog F (callFunc 135 xs) S = some (.enter 135 xs) := rval_callFunc (by unfold entB; rw [Try.func135]; rfl)
theorem ni135 : Try.prog.inits.idxOf? 135 = none := by kernel_rfl
theorem en136 {F : Fr} {h : Hp} {xs : Array Value} {K : Next → Hp → Prop} : dwp Try.prog F (callFunc 136 xs) h K = K (.enter 136 xs) h := dwp_callFunc (by unfold entB; rw [Try.func136]; rfl)
theorem re136 {F : Fr} {S : Hp} {xs : Array Value} : rval Try.prog F (callFunc 136 xs) S = some (.enter 136 xs) := rval_callFunc (by unfold entB; rw [Try.func136]; rfl)
theorem ni136 : Try.prog.inits.idxOf? 136 = none := by kernel_rfl
theorem en137 {F : Fr} {h : Hp} {xs : Array Value} {K : Next → Hp → Prop} : dwp Try.prog F (callFunc 137 xs) h K = K (.enter 137 xs) h := dwp_callFunc (by unfold entB; rw [Try.func137]; rfl)
theorem re137 {F : Fr} {S : Hp} {xs : Array Value} : rval Try.prog F (callFunc 137 xs) S = some (.enter 137 xs) := rval_callFunc (by unfold entB; rw [Try.func137]; rfl)
theorem ni137 : Try.prog.inits.idxOf? 137 = none := by kernel_rfl
theorem en138 {F : Fr} {h : Hp} {xs : Array Value} {K : Next → Hp → Prop} : dwp Try.prog F (callFunc 138 xs) h K = K (.enter 138 xs) h := dwp_callFunc (by unfold entB; rw [Try.func138]; rfl)
theorem re138 {F : Fr} {S : Hp} {xs : Array Value} : rval Try.prog F (callFunc 138 xs) S = some (.enter 138 xs) := rval_callFunc (by unfold entB; rw [Try.func138]; rfl)
end Go.Proofs.Ytdhdfdaclbfkiaa
