/-
  No cell of these rows narrows 'for every input' (looked for: loops, veiled, ifaces, maps, wideKeys, modest, calm, conditions, laid).
  DERIVED. THE GIVEN ROWS OF THIS SEAT. 16 by the template 'for every input the law returns true; each argument reads behind the call as it read before'; 0 by the template 'total and deterministic' (their statements: YtofplebnlaaceaaTotals.lean).
  GIVEN WITH THE SEED: the statements are not yours to turn. If you find one false, say at which input.
  Laid BY PROGRAM, IN A SANDBOX (cutbox-rows.mjs): the forced cells as the released guide's own fill.sh prints them over the translation 83af17b79c6bcd42… (all of the seat's roots in one cut). By AI agents, Wed Nov 11 2026. No macro, syntax, notation, axiom, sorry.
-/
import Derived.Test.YtofplebnlaaceaaChecked
import GoSem.Claim
import GoSem.ClaimJoined
import GoSem.ClaimMapViews
import Derived.JoinedTies
import Derived.KernelRfl
namespace Go.Proofs.Ytofplebnlaaceaa
/- THE CELL 'sum', in the pinned program and in every row, IS THE sha256 OF THE DUMP (.gsa) THAT YtofplebnlaaceaaProg.lean LOADS. Nothing in Lean hashes anything: it is a label: what it is worth is what the hold of that sum in a sandbox is worth. -/
noncomputable def Try.pinned : Pinned := { name := "ytofplebnlaaceaa", sum := "83af17b79c6bcd4263ada3807f7d340ddd5cadc2b687f584ba0d21910d61ae79", checked := Try.checked }
namespace Rows
def none {H : Type} : Left H := { results := [], args := [] }

/-- 'acmetop.TopRoomTurns': WHATEVER THE INPUT: true; the input reads as it did. -/
def topRoomTurnsSpec : ChangeSpec := { name := "topRoomTurns", fn := fun _ => fun
  | [d1, d2, d3] => { results := [.lit (.bool true)], args := [d1, d2, d3] }
  | _ => none }
def topRoomTurnsRow : OpenClaim := { program := "ytofplebnlaaceaa", sum := "83af17b79c6bcd4263ada3807f7d340ddd5cadc2b687f584ba0d21910d61ae79", func := "acme/acmetop.TopRoomTurns", spec := "topRoomTurns", unfollowed := true, recurses := true, plainKeys := false, apart := false }
def TopRoomTurnsSaid : Prop := topRoomTurnsRow.holds Try.pinned (OpenSpec.ofChange topRoomTurnsSpec)

/-- ITS FALSE NEIGHBOUR: 'it returns false'. Refute it at one input. -/
def topRoomTurnsWrong : ChangeSpec := { name := "topRoomTurns", fn := fun _ => fun
  | [d1, d2, d3] => { results := [.lit (.bool false)], args := [d1, d2, d3] }
  | _ => none }
def TopRoomTurnsWrongFalsely : Prop := topRoomTurnsRow.holds Try.pinned (OpenSpec.ofChange topRoomTurnsWrong)

/-- 'acmetop.TopBoltSwap': WHATEVER THE INPUT: true; the input reads as it did. -/
def topBoltSwapSpec : ChangeSpec := { name := "topBoltSwap", fn := fun _ => fun
  | [d1, d2] => { results := [.lit (.bool true)], args := [d1, d2] }
  | _ => none }
def topBoltSwapRow : OpenClaim := { program := "ytofplebnlaaceaa", sum := "83af17b79c6bcd4263ada3807f7d340ddd5cadc2b687f584ba0d21910d61ae79", func := "acme/acmetop.TopBoltSwap", spec := "topBoltSwap", unfollowed := true, recurses := true, plainKeys := false, apart := false }
def TopBoltSwapSaid : Prop := topBoltSwapRow.holds Try.pinned (OpenSpec.ofChange topBoltSwapSpec)

/-- ITS FALSE NEIGHBOUR: 'it returns false'. Refute it at one input. -/
def topBoltSwapWrong : ChangeSpec := { name := "topBoltSwap", fn := fun _ => fun
  | [d1, d2] => { results := [.lit (.bool false)], args := [d1, d2] }
  | _ => none }
def TopBoltSwapWrongFalsely : Prop := topBoltSwapRow.holds Try.pinned (OpenSpec.ofChange topBoltSwapWrong)

/-- 'acmetop.TopBoltZone': WHATEVER THE INPUT: true; the input reads as it did. -/
def topBoltZoneSpec : ChangeSpec := { name := "topBoltZone", fn := fun _ => fun
  | [d1, d2, d3] => { results := [.lit (.bool true)], args := [d1, d2, d3] }
  | _ => none }
def topBoltZoneRow : OpenClaim := { program := "ytofplebnlaaceaa", sum := "83af17b79c6bcd4263ada3807f7d340ddd5cadc2b687f584ba0d21910d61ae79", func := "acme/acmetop.TopBoltZone", spec := "topBoltZone", unfollowed := true, recurses := true, plainKeys := false, apart := false }
def TopBoltZoneSaid : Prop := topBoltZoneRow.holds Try.pinned (OpenSpec.ofChange topBoltZoneSpec)

/-- ITS FALSE NEIGHBOUR: 'it returns false'. Refute it at one input. -/
def topBoltZoneWrong : ChangeSpec := { name := "topBoltZone", fn := fun _ => fun
  | [d1, d2, d3] => { results := [.lit (.bool false)], args := [d1, d2, d3] }
  | _ => none }
def TopBoltZoneWrongFalsely : Prop := topBoltZoneRow.holds Try.pinned (OpenSpec.ofChange topBoltZoneWrong)

/-- 'acmetop.TopBoltThread': WHATEVER THE INPUT: true; the input reads as it did. -/
def topBoltThreadSpec : ChangeSpec := { name := "topBoltThread", fn := fun _ => fun
  | [d1, d2, d3] => { results := [.lit (.bool true)], args := [d1, d2, d3] }
  | _ => none }
def topBoltThreadRow : OpenClaim := { program := "ytofplebnlaaceaa", sum := "83af17b79c6bcd4263ada3807f7d340ddd5cadc2b687f584ba0d21910d61ae79", func := "acme/acmetop.TopBoltThread", spec := "topBoltThread", unfollowed := true, recurses := true, plainKeys := false, apart := false }
def TopBoltThreadSaid : Prop := topBoltThreadRow.holds Try.pinned (OpenSpec.ofChange topBoltThreadSpec)

/-- ITS FALSE NEIGHBOUR: 'it returns false'. Refute it at one input. -/
def topBoltThreadWrong : ChangeSpec := { name := "topBoltThread", fn := fun _ => fun
  | [d1, d2, d3] => { results := [.lit (.bool false)], args := [d1, d2, d3] }
  | _ => none }
def TopBoltThreadWrongFalsely : Prop := topBoltThreadRow.holds Try.pinned (OpenSpec.ofChange topBoltThreadWrong)

/-- 'acmetop.TopThreadFit': WHATEVER THE INPUT: true; the input reads as it did. -/
def topThreadFitSpec : ChangeSpec := { name := "topThreadFit", fn := fun _ => fun
  | [d1, d2, d3] => { results := [.lit (.bool true)], args := [d1, d2, d3] }
  | _ => none }
def topThreadFitRow : OpenClaim := { program := "ytofplebnlaaceaa", sum := "83af17b79c6bcd4263ada3807f7d340ddd5cadc2b687f584ba0d21910d61ae79", func := "acme/acmetop.TopThreadFit", spec := "topThreadFit", unfollowed := true, recurses := true, plainKeys := false, apart := false }
def TopThreadFitSaid : Prop := topThreadFitRow.holds Try.pinned (OpenSpec.ofChange topThreadFitSpec)

/-- ITS FALSE NEIGHBOUR: 'it returns false'. Refute it at one input. -/
def topThreadFitWrong : ChangeSpec := { name := "topThreadFit", fn := fun _ => fun
  | [d1, d2, d3] => { results := [.lit (.bool false)], args := [d1, d2, d3] }
  | _ => none }
def TopThreadFitWrongFalsely : Prop := topThreadFitRow.holds Try.pinned (OpenSpec.ofChange topThreadFitWrong)

/-- 'acmetop.TopTurnsDeep': WHATEVER THE INPUT: true; the input reads as it did. -/
def topTurnsDeepSpec : ChangeSpec := { name := "topTurnsDeep", fn := fun _ => fun
  | [d1, d2, d3] => { results := [.lit (.bool true)], args := [d1, d2, d3] }
  | _ => none }
def topTurnsDeepRow : OpenClaim := { program := "ytofplebnlaaceaa", sum := "83af17b79c6bcd4263ada3807f7d340ddd5cadc2b687f584ba0d21910d61ae79", func := "acme/acmetop.TopTurnsDeep", spec := "topTurnsDeep", unfollowed := true, recurses := true, plainKeys := false, apart := false }
def TopTurnsDeepSaid : Prop := topTurnsDeepRow.holds Try.pinned (OpenSpec.ofChange topTurnsDeepSpec)

/-- ITS FALSE NEIGHBOUR: 'it returns false'. Refute it at one input. -/
def topTurnsDeepWrong : ChangeSpec := { name := "topTurnsDeep", fn := fun _ => fun
  | [d1, d2, d3] => { results := [.lit (.bool false)], args := [d1, d2, d3] }
  | _ => none }
def TopTurnsDeepWrongFalsely : Prop := topTurnsDeepRow.holds Try.pinned (OpenSpec.ofChange topTurnsDeepWrong)

/-- 'acmetop.TopLossFlange': WHATEVER THE INPUT: true; the input reads as it did. -/
def topLossFlangeSpec : ChangeSpec := { name := "topLossFlange", fn := fun _ => fun
  | [d1, d2, d3] => { results := [.lit (.bool true)], args := [d1, d2, d3] }
  | _ => none }
def topLossFlangeRow : OpenClaim := { program := "ytofplebnlaaceaa", sum := "83af17b79c6bcd4263ada3807f7d340ddd5cadc2b687f584ba0d21910d61ae79", func := "acme/acmetop.TopLossFlange", spec := "topLossFlange", unfollowed := true, recurses := true, plainKeys := false, apart := false }
def TopLossFlangeSaid : Prop := topLossFlangeRow.holds Try.pinned (OpenSpec.ofChange topLossFlangeSpec)

/-- ITS FALSE NEIGHBOUR: 'it returns false'. Refute it at one input. -/
def topLossFlangeWrong : ChangeSpec := { name := "topLossFlange", fn := fun _ => fun
  | [d1, d2, d3] => { results := [.lit (.bool false)], args := [d1, d2, d3] }
  | _ => none }
def TopLossFlangeWrongFalsely : Prop := topLossFlangeRow.holds Try.pinned (OpenSpec.ofChange topLossFlangeWrong)

/-- 'acmetop.TopWidthFit': WHATEVER THE INPUT: true; the input reads as it did. -/
def topWidthFitSpec : ChangeSpec := { name := "topWidthFit", fn := fun _ => fun
  | [d1, d2, d3] => { results := [.lit (.bool true)], args := [d1, d2, d3] }
  | _ => none }
def topWidthFitRow : OpenClaim := { program := "ytofplebnlaaceaa", sum := "83af17b79c6bcd4263ada3807f7d340ddd5cadc2b687f584ba0d21910d61ae79", func := "acme/acmetop.TopWidthFit", spec := "topWidthFit", unfollowed := true, recurses := true, plainKeys := false, apart := false }
def TopWidthFitSaid : Prop := topWidthFitRow.holds Try.pinned (OpenSpec.ofChange topWidthFitSpec)

/-- ITS FALSE NEIGHBOUR: 'it returns false'. Refute it at one input. -/
def topWidthFitWrong : ChangeSpec := { name := "topWidthFit", fn := fun _ => fun
  | [d1, d2, d3] => { results := [.lit (.bool false)], args := [d1, d2, d3] }
  | _ => none }
def TopWidthFitWrongFalsely : Prop := topWidthFitRow.holds Try.pinned (OpenSpec.ofChange topWidthFitWrong)

/-- 'acmetop.TopDieSwap': WHATEVER THE INPUT: true; the input reads as it did. -/
def topDieSwapSpec : ChangeSpec := { name := "topDieSwap", fn := fun _ => fun
  | [d1, d2] => { results := [.lit (.bool true)], args := [d1, d2] }
  | _ => none }
def topDieSwapRow : OpenClaim := { program := "ytofplebnlaaceaa", sum := "83af17b79c6bcd4263ada3807f7d340ddd5cadc2b687f584ba0d21910d61ae79", func := "acme/acmetop.TopDieSwap", spec := "topDieSwap", unfollowed := true, recurses := true, plainKeys := false, apart := false }
def TopDieSwapSaid : Prop := topDieSwapRow.holds Try.pinned (OpenSpec.ofChange topDieSwapSpec)

/-- ITS FALSE NEIGHBOUR: 'it returns false'. Refute it at one input. -/
def topDieSwapWrong : ChangeSpec := { name := "topDieSwap", fn := fun _ => fun
  | [d1, d2] => { results := [.lit (.bool false)], args := [d1, d2] }
  | _ => none }
def TopDieSwapWrongFalsely : Prop := topDieSwapRow.holds Try.pinned (OpenSpec.ofChange topDieSwapWrong)

/-- 'acmetop.TopRoomPlace': WHATEVER THE INPUT: true; the input reads as it did. -/
def topRoomPlaceSpec : ChangeSpec := { name := "topRoomPlace", fn := fun _ => fun
  | [d1, d2, d3] => { results := [.lit (.bool true)], args := [d1, d2, d3] }
  | _ => none }
def topRoomPlaceRow : OpenClaim := { program := "ytofplebnlaaceaa", sum := "83af17b79c6bcd4263ada3807f7d340ddd5cadc2b687f584ba0d21910d61ae79", func := "acme/acmetop.TopRoomPlace", spec := "topRoomPlace", unfollowed := true, recurses := true, plainKeys := false, apart := false }
def TopRoomPlaceSaid : Prop := topRoomPlaceRow.holds Try.pinned (OpenSpec.ofChange topRoomPlaceSpec)

/-- ITS FALSE NEIGHBOUR: 'it returns false'. Refute it at one input. -/
def topRoomPlaceWrong : ChangeSpec := { name := "topRoomPlace", fn := fun _ => fun
  | [d1, d2, d3] => { results := [.lit (.bool false)], args := [d1, d2, d3] }
  | _ => none }
def TopRoomPlaceWrongFalsely : Prop := topRoomPlaceRow.holds Try.pinned (OpenSpec.ofChange topRoomPlaceWrong)

/-- 'acmetop.TopBestFlange': WHATEVER THE INPUT: true; the input reads as it did. -/
def topBestFlangeSpec : ChangeSpec := { name := "topBestFlange", fn := fun _ => fun
  | [d1, d2, d3] => { results := [.lit (.bool true)], args := [d1, d2, d3] }
  | _ => none }
def topBestFlangeRow : OpenClaim := { program := "ytofplebnlaaceaa", sum := "83af17b79c6bcd4263ada3807f7d340ddd5cadc2b687f584ba0d21910d61ae79", func := "acme/acmetop.TopBestFlange", spec := "topBestFlange", unfollowed := true, recurses := true, plainKeys := false, apart := false }
def TopBestFlangeSaid : Prop := topBestFlangeRow.holds Try.pinned (OpenSpec.ofChange topBestFlangeSpec)

/-- ITS FALSE NEIGHBOUR: 'it returns false'. Refute it at one input. -/
def topBestFlangeWrong : ChangeSpec := { name := "topBestFlange", fn := fun _ => fun
  | [d1, d2, d3] => { results := [.lit (.bool false)], args := [d1, d2, d3] }
  | _ => none }
def TopBestFlangeWrongFalsely : Prop := topBestFlangeRow.holds Try.pinned (OpenSpec.ofChange topBestFlangeWrong)

/-- 'acmetop.TopRolled': WHATEVER THE INPUT: true; the input reads as it did. -/
def topRolledSpec : ChangeSpec := { name := "topRolled", fn := fun _ => fun
  | [d1, d2, d3] => { results := [.lit (.bool true)], args := [d1, d2, d3] }
  | _ => none }
def topRolledRow : OpenClaim := { program := "ytofplebnlaaceaa", sum := "83af17b79c6bcd4263ada3807f7d340ddd5cadc2b687f584ba0d21910d61ae79", func := "acme/acmetop.TopRolled", spec := "topRolled", unfollowed := true, recurses := true, plainKeys := false, apart := false }
def TopRolledSaid : Prop := topRolledRow.holds Try.pinned (OpenSpec.ofChange topRolledSpec)

/-- ITS FALSE NEIGHBOUR: 'it returns false'. Refute it at one input. -/
def topRolledWrong : ChangeSpec := { name := "topRolled", fn := fun _ => fun
  | [d1, d2, d3] => { results := [.lit (.bool false)], args := [d1, d2, d3] }
  | _ => none }
def TopRolledWrongFalsely : Prop := topRolledRow.holds Try.pinned (OpenSpec.ofChange topRolledWrong)

/-- 'acmetop.TopSeatThread': WHATEVER THE INPUT: true; the input reads as it did. -/
def topSeatThreadSpec : ChangeSpec := { name := "topSeatThread", fn := fun _ => fun
  | [d1, d2, d3] => { results := [.lit (.bool true)], args := [d1, d2, d3] }
  | _ => none }
def topSeatThreadRow : OpenClaim := { program := "ytofplebnlaaceaa", sum := "83af17b79c6bcd4263ada3807f7d340ddd5cadc2b687f584ba0d21910d61ae79", func := "acme/acmetop.TopSeatThread", spec := "topSeatThread", unfollowed := true, recurses := true, plainKeys := false, apart := false }
def TopSeatThreadSaid : Prop := topSeatThreadRow.holds Try.pinned (OpenSpec.ofChange topSeatThreadSpec)

/-- ITS FALSE NEIGHBOUR: 'it returns false'. Refute it at one input. -/
def topSeatThreadWrong : ChangeSpec := { name := "topSeatThread", fn := fun _ => fun
  | [d1, d2, d3] => { results := [.lit (.bool false)], args := [d1, d2, d3] }
  | _ => none }
def TopSeatThreadWrongFalsely : Prop := topSeatThreadRow.holds Try.pinned (OpenSpec.ofChange topSeatThreadWrong)

/-- 'acmetop.TopCoilSwap': WHATEVER THE INPUT: true; the input reads as it did. -/
def topCoilSwapSpec : ChangeSpec := { name := "topCoilSwap", fn := fun _ => fun
  | [d1, d2, d3] => { results := [.lit (.bool true)], args := [d1, d2, d3] }
  | _ => none }
def topCoilSwapRow : OpenClaim := { program := "ytofplebnlaaceaa", sum := "83af17b79c6bcd4263ada3807f7d340ddd5cadc2b687f584ba0d21910d61ae79", func := "acme/acmetop.TopCoilSwap", spec := "topCoilSwap", unfollowed := true, recurses := true, plainKeys := false, apart := false }
def TopCoilSwapSaid : Prop := topCoilSwapRow.holds Try.pinned (OpenSpec.ofChange topCoilSwapSpec)

/-- ITS FALSE NEIGHBOUR: 'it returns false'. Refute it at one input. -/
def topCoilSwapWrong : ChangeSpec := { name := "topCoilSwap", fn := fun _ => fun
  | [d1, d2, d3] => { results := [.lit (.bool false)], args := [d1, d2, d3] }
  | _ => none }
def TopCoilSwapWrongFalsely : Prop := topCoilSwapRow.holds Try.pinned (OpenSpec.ofChange topCoilSwapWrong)

/-- 'acmetop.TopRightFlange': WHATEVER THE INPUT: true; the input reads as it did. -/
def topRightFlangeSpec : ChangeSpec := { name := "topRightFlange", fn := fun _ => fun
  | [d1, d2, d3] => { results := [.lit (.bool true)], args := [d1, d2, d3] }
  | _ => none }
def topRightFlangeRow : OpenClaim := { program := "ytofplebnlaaceaa", sum := "83af17b79c6bcd4263ada3807f7d340ddd5cadc2b687f584ba0d21910d61ae79", func := "acme/acmetop.TopRightFlange", spec := "topRightFlange", unfollowed := true, recurses := true, plainKeys := false, apart := false }
def TopRightFlangeSaid : Prop := topRightFlangeRow.holds Try.pinned (OpenSpec.ofChange topRightFlangeSpec)

/-- ITS FALSE NEIGHBOUR: 'it returns false'. Refute it at one input. -/
def topRightFlangeWrong : ChangeSpec := { name := "topRightFlange", fn := fun _ => fun
  | [d1, d2, d3] => { results := [.lit (.bool false)], args := [d1, d2, d3] }
  | _ => none }
def TopRightFlangeWrongFalsely : Prop := topRightFlangeRow.holds Try.pinned (OpenSpec.ofChange topRightFlangeWrong)

/-- 'acmetop.TopWiresLot': WHATEVER THE INPUT: true; the input reads as it did. -/
def topWiresLotSpec : ChangeSpec := { name := "topWiresLot", fn := fun _ => fun
  | [d1, d2] => { results := [.lit (.bool true)], args := [d1, d2] }
  | _ => none }
def topWiresLotRow : OpenClaim := { program := "ytofplebnlaaceaa", sum := "83af17b79c6bcd4263ada3807f7d340ddd5cadc2b687f584ba0d21910d61ae79", func := "acme/acmetop.TopWiresLot", spec := "topWiresLot", unfollowed := true, recurses := true, plainKeys := false, apart := false }
def TopWiresLotSaid : Prop := topWiresLotRow.holds Try.pinned (OpenSpec.ofChange topWiresLotSpec)

/-- ITS FALSE NEIGHBOUR: 'it returns false'. Refute it at one input. -/
def topWiresLotWrong : ChangeSpec := { name := "topWiresLot", fn := fun _ => fun
  | [d1, d2] => { results := [.lit (.bool false)], args := [d1, d2] }
  | _ => none }
def TopWiresLotWrongFalsely : Prop := topWiresLotRow.holds Try.pinned (OpenSpec.ofChange topWiresLotWrong)

/- THE SECOND FORM. 'bulk': how many values and letters a reading holds, each counted each time it is reached (what is shared counts as often as it is met; a slice's spare places count too). A statement '..UptoSaid' is the law's where the arguments, and the package variables that the reading takes, are together of bulk at most 1048576: NARROWER than '..Said'. Prove '..Said' where nothing that the law and all that it calls make is longer than what came in: it says more and counts as full. Else prove '..UptoSaid'. A law counts once. -/
mutual
def uptoBulk {H : Type} : DataW H → Nat
  | .lit (.string bytes) => bytes.length + 1
  | .lit _ => 1
  | .nil => 1
  | .ptr d => uptoBulk d + 1
  | .slice elems spare => uptoBulkAll elems + uptoBulkAll spare + 1
  | .agg parts => uptoBulkAll parts + 1
  | .iface _ d => uptoBulk d + 1
  | .map entries => uptoBulkEntries entries + 1
  | .held _ => 1
def uptoBulkAll {H : Type} : List (DataW H) → Nat
  | [] => 0
  | d :: r => uptoBulk d + uptoBulkAll r
def uptoBulkEntries {H : Type} : List (Lit × DataW H) → Nat
  | [] => 0
  | x :: r => uptoBulkEntry x + uptoBulkEntries r
def uptoBulkEntry {H : Type} : Lit × DataW H → Nat
  | (.string bytes, d) => bytes.length + uptoBulk d + 1
  | (_, d) => uptoBulk d + 1
 end
def uptoSmall : (H : Type) → List (DataW H) → Bool := fun _ ds => decide (uptoBulkAll ds ≤ 1048576)
def OpenSpec.upto (s : _root_.Go.ChangeSpec) : _root_.Go.OpenSpec := { _root_.Go.OpenSpec.ofChange s with cond := some uptoSmall }

/-- 'acmetop.TopRoomTurns', WHERE WHAT IT READS IS OF BULK AT MOST 1048576: true; the input reads as it did. -/
def topRoomTurnsUptoRow : OpenClaim := { program := "ytofplebnlaaceaa", sum := "83af17b79c6bcd4263ada3807f7d340ddd5cadc2b687f584ba0d21910d61ae79", func := "acme/acmetop.TopRoomTurns", spec := "topRoomTurns", unfollowed := true, recurses := true, plainKeys := false, apart := false, narrowed := true }
def TopRoomTurnsUptoSaid : Prop := topRoomTurnsUptoRow.holds Try.pinned (OpenSpec.upto topRoomTurnsSpec)

/-- 'acmetop.TopBoltSwap', WHERE WHAT IT READS IS OF BULK AT MOST 1048576: true; the input reads as it did. -/
def topBoltSwapUptoRow : OpenClaim := { program := "ytofplebnlaaceaa", sum := "83af17b79c6bcd4263ada3807f7d340ddd5cadc2b687f584ba0d21910d61ae79", func := "acme/acmetop.TopBoltSwap", spec := "topBoltSwap", unfollowed := true, recurses := true, plainKeys := false, apart := false, narrowed := true }
def TopBoltSwapUptoSaid : Prop := topBoltSwapUptoRow.holds Try.pinned (OpenSpec.upto topBoltSwapSpec)

/-- 'acmetop.TopBoltZone', WHERE WHAT IT READS IS OF BULK AT MOST 1048576: true; the input reads as it did. -/
def topBoltZoneUptoRow : OpenClaim := { program := "ytofplebnlaaceaa", sum := "83af17b79c6bcd4263ada3807f7d340ddd5cadc2b687f584ba0d21910d61ae79", func := "acme/acmetop.TopBoltZone", spec := "topBoltZone", unfollowed := true, recurses := true, plainKeys := false, apart := false, narrowed := true }
def TopBoltZoneUptoSaid : Prop := topBoltZoneUptoRow.holds Try.pinned (OpenSpec.upto topBoltZoneSpec)

/-- 'acmetop.TopBoltThread', WHERE WHAT IT READS IS OF BULK AT MOST 1048576: true; the input reads as it did. -/
def topBoltThreadUptoRow : OpenClaim := { program := "ytofplebnlaaceaa", sum := "83af17b79c6bcd4263ada3807f7d340ddd5cadc2b687f584ba0d21910d61ae79", func := "acme/acmetop.TopBoltThread", spec := "topBoltThread", unfollowed := true, recurses := true, plainKeys := false, apart := false, narrowed := true }
def TopBoltThreadUptoSaid : Prop := topBoltThreadUptoRow.holds Try.pinned (OpenSpec.upto topBoltThreadSpec)

/-- 'acmetop.TopThreadFit', WHERE WHAT IT READS IS OF BULK AT MOST 1048576: true; the input reads as it did. -/
def topThreadFitUptoRow : OpenClaim := { program := "ytofplebnlaaceaa", sum := "83af17b79c6bcd4263ada3807f7d340ddd5cadc2b687f584ba0d21910d61ae79", func := "acme/acmetop.TopThreadFit", spec := "topThreadFit", unfollowed := true, recurses := true, plainKeys := false, apart := false, narrowed := true }
def TopThreadFitUptoSaid : Prop := topThreadFitUptoRow.holds Try.pinned (OpenSpec.upto topThreadFitSpec)

/-- 'acmetop.TopTurnsDeep', WHERE WHAT IT READS IS OF BULK AT MOST 1048576: true; the input reads as it did. -/
def topTurnsDeepUptoRow : OpenClaim := { program := "ytofplebnlaaceaa", sum := "83af17b79c6bcd4263ada3807f7d340ddd5cadc2b687f584ba0d21910d61ae79", func := "acme/acmetop.TopTurnsDeep", spec := "topTurnsDeep", unfollowed := true, recurses := true, plainKeys := false, apart := false, narrowed := true }
def TopTurnsDeepUptoSaid : Prop := topTurnsDeepUptoRow.holds Try.pinned (OpenSpec.upto topTurnsDeepSpec)

/-- 'acmetop.TopLossFlange', WHERE WHAT IT READS IS OF BULK AT MOST 1048576: true; the input reads as it did. -/
def topLossFlangeUptoRow : OpenClaim := { program := "ytofplebnlaaceaa", sum := "83af17b79c6bcd4263ada3807f7d340ddd5cadc2b687f584ba0d21910d61ae79", func := "acme/acmetop.TopLossFlange", spec := "topLossFlange", unfollowed := true, recurses := true, plainKeys := false, apart := false, narrowed := true }
def TopLossFlangeUptoSaid : Prop := topLossFlangeUptoRow.holds Try.pinned (OpenSpec.upto topLossFlangeSpec)

/-- 'acmetop.TopWidthFit', WHERE WHAT IT READS IS OF BULK AT MOST 1048576: true; the input reads as it did. -/
def topWidthFitUptoRow : OpenClaim := { program := "ytofplebnlaaceaa", sum := "83af17b79c6bcd4263ada3807f7d340ddd5cadc2b687f584ba0d21910d61ae79", func := "acme/acmetop.TopWidthFit", spec := "topWidthFit", unfollowed := true, recurses := true, plainKeys := false, apart := false, narrowed := true }
def TopWidthFitUptoSaid : Prop := topWidthFitUptoRow.holds Try.pinned (OpenSpec.upto topWidthFitSpec)

/-- 'acmetop.TopDieSwap', WHERE WHAT IT READS IS OF BULK AT MOST 1048576: true; the input reads as it did. -/
def topDieSwapUptoRow : OpenClaim := { program := "ytofplebnlaaceaa", sum := "83af17b79c6bcd4263ada3807f7d340ddd5cadc2b687f584ba0d21910d61ae79", func := "acme/acmetop.TopDieSwap", spec := "topDieSwap", unfollowed := true, recurses := true, plainKeys := false, apart := false, narrowed := true }
def TopDieSwapUptoSaid : Prop := topDieSwapUptoRow.holds Try.pinned (OpenSpec.upto topDieSwapSpec)

/-- 'acmetop.TopRoomPlace', WHERE WHAT IT READS IS OF BULK AT MOST 1048576: true; the input reads as it did. -/
def topRoomPlaceUptoRow : OpenClaim := { program := "ytofplebnlaaceaa", sum := "83af17b79c6bcd4263ada3807f7d340ddd5cadc2b687f584ba0d21910d61ae79", func := "acme/acmetop.TopRoomPlace", spec := "topRoomPlace", unfollowed := true, recurses := true, plainKeys := false, apart := false, narrowed := true }
def TopRoomPlaceUptoSaid : Prop := topRoomPlaceUptoRow.holds Try.pinned (OpenSpec.upto topRoomPlaceSpec)

/-- 'acmetop.TopBestFlange', WHERE WHAT IT READS IS OF BULK AT MOST 1048576: true; the input reads as it did. -/
def topBestFlangeUptoRow : OpenClaim := { program := "ytofplebnlaaceaa", sum := "83af17b79c6bcd4263ada3807f7d340ddd5cadc2b687f584ba0d21910d61ae79", func := "acme/acmetop.TopBestFlange", spec := "topBestFlange", unfollowed := true, recurses := true, plainKeys := false, apart := false, narrowed := true }
def TopBestFlangeUptoSaid : Prop := topBestFlangeUptoRow.holds Try.pinned (OpenSpec.upto topBestFlangeSpec)

/-- 'acmetop.TopRolled', WHERE WHAT IT READS IS OF BULK AT MOST 1048576: true; the input reads as it did. -/
def topRolledUptoRow : OpenClaim := { program := "ytofplebnlaaceaa", sum := "83af17b79c6bcd4263ada3807f7d340ddd5cadc2b687f584ba0d21910d61ae79", func := "acme/acmetop.TopRolled", spec := "topRolled", unfollowed := true, recurses := true, plainKeys := false, apart := false, narrowed := true }
def TopRolledUptoSaid : Prop := topRolledUptoRow.holds Try.pinned (OpenSpec.upto topRolledSpec)

/-- 'acmetop.TopSeatThread', WHERE WHAT IT READS IS OF BULK AT MOST 1048576: true; the input reads as it did. -/
def topSeatThreadUptoRow : OpenClaim := { program := "ytofplebnlaaceaa", sum := "83af17b79c6bcd4263ada3807f7d340ddd5cadc2b687f584ba0d21910d61ae79", func := "acme/acmetop.TopSeatThread", spec := "topSeatThread", unfollowed := true, recurses := true, plainKeys := false, apart := false, narrowed := true }
def TopSeatThreadUptoSaid : Prop := topSeatThreadUptoRow.holds Try.pinned (OpenSpec.upto topSeatThreadSpec)

/-- 'acmetop.TopCoilSwap', WHERE WHAT IT READS IS OF BULK AT MOST 1048576: true; the input reads as it did. -/
def topCoilSwapUptoRow : OpenClaim := { program := "ytofplebnlaaceaa", sum := "83af17b79c6bcd4263ada3807f7d340ddd5cadc2b687f584ba0d21910d61ae79", func := "acme/acmetop.TopCoilSwap", spec := "topCoilSwap", unfollowed := true, recurses := true, plainKeys := false, apart := false, narrowed := true }
def TopCoilSwapUptoSaid : Prop := topCoilSwapUptoRow.holds Try.pinned (OpenSpec.upto topCoilSwapSpec)

/-- 'acmetop.TopRightFlange', WHERE WHAT IT READS IS OF BULK AT MOST 1048576: true; the input reads as it did. -/
def topRightFlangeUptoRow : OpenClaim := { program := "ytofplebnlaaceaa", sum := "83af17b79c6bcd4263ada3807f7d340ddd5cadc2b687f584ba0d21910d61ae79", func := "acme/acmetop.TopRightFlange", spec := "topRightFlange", unfollowed := true, recurses := true, plainKeys := false, apart := false, narrowed := true }
def TopRightFlangeUptoSaid : Prop := topRightFlangeUptoRow.holds Try.pinned (OpenSpec.upto topRightFlangeSpec)

/-- 'acmetop.TopWiresLot', WHERE WHAT IT READS IS OF BULK AT MOST 1048576: true; the input reads as it did. -/
def topWiresLotUptoRow : OpenClaim := { program := "ytofplebnlaaceaa", sum := "83af17b79c6bcd4263ada3807f7d340ddd5cadc2b687f584ba0d21910d61ae79", func := "acme/acmetop.TopWiresLot", spec := "topWiresLot", unfollowed := true, recurses := true, plainKeys := false, apart := false, narrowed := true }
def TopWiresLotUptoSaid : Prop := topWiresLotUptoRow.holds Try.pinned (OpenSpec.upto topWiresLotSpec)

end Rows
end Go.Proofs.Ytofplebnlaaceaa
