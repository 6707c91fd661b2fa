/-
  No cell of these rows narrows 'for every input' (looked for: loops, veiled, ifaces, maps, wideKeys, modest, calm, conditions, laid).
  DERIVED. THE GIVEN ROWS OF THIS SEAT. 7 by the template 'for every input the law returns true; each argument reads behind the call as it read before'; 0 by the template 'total and deterministic' (their statements: YtdhdfdaclbfkiaaTotals.lean).
  GIVEN WITH THE SEED: the statements are not yours to turn. If you find one false, say at which input.
  Laid BY PROGRAM, IN A SANDBOX (cutbox-rows.mjs): the forced cells as the released guide's own fill.sh prints them over the translation 5129ab646a1a996a… (all of the seat's roots in one cut). By AI agents, Wed Nov 11 2026. No macro, syntax, notation, axiom, sorry.
-/
import Derived.Test.YtdhdfdaclbfkiaaChecked
import GoSem.Claim
import GoSem.ClaimJoined
import GoSem.ClaimMapViews
import Derived.JoinedTies
import Derived.KernelRfl
namespace Go.Proofs.Ytdhdfdaclbfkiaa
/- THE CELL 'sum', in the pinned program and in every row, IS THE sha256 OF THE DUMP (.gsa) THAT YtdhdfdaclbfkiaaProg.lean LOADS. Nothing in Lean hashes anything: it is a label: what it is worth is what the hold of that sum in a sandbox is worth. -/
noncomputable def Try.pinned : Pinned := { name := "ytdhdfdaclbfkiaa", sum := "5129ab646a1a996a1c3baa7f471b523134b95b1a83159efb2786f777e8ef4e55", checked := Try.checked }
namespace Rows
def none {H : Type} : Left H := { results := [], args := [] }

/-- 'acmetop.TopBoltZone': WHATEVER THE INPUT: true; the input reads as it did. -/
def topBoltZoneSpec : ChangeSpec := { name := "topBoltZone", fn := fun _ => fun
  | [d1, d2, d3] => { results := [.lit (.bool true)], args := [d1, d2, d3] }
  | _ => none }
def topBoltZoneRow : OpenClaim := { program := "ytdhdfdaclbfkiaa", sum := "5129ab646a1a996a1c3baa7f471b523134b95b1a83159efb2786f777e8ef4e55", func := "acme/acmetop.TopBoltZone", spec := "topBoltZone", unfollowed := true, recurses := true, apart := false }
def TopBoltZoneSaid : Prop := topBoltZoneRow.holds Try.pinned (OpenSpec.ofChange topBoltZoneSpec)

/-- ITS FALSE NEIGHBOUR: 'it returns false'. Refute it at one input. -/
def topBoltZoneWrong : ChangeSpec := { name := "topBoltZone", fn := fun _ => fun
  | [d1, d2, d3] => { results := [.lit (.bool false)], args := [d1, d2, d3] }
  | _ => none }
def TopBoltZoneWrongFalsely : Prop := topBoltZoneRow.holds Try.pinned (OpenSpec.ofChange topBoltZoneWrong)

/-- 'acmetop.TopBoltThread': WHATEVER THE INPUT: true; the input reads as it did. -/
def topBoltThreadSpec : ChangeSpec := { name := "topBoltThread", fn := fun _ => fun
  | [d1, d2, d3] => { results := [.lit (.bool true)], args := [d1, d2, d3] }
  | _ => none }
def topBoltThreadRow : OpenClaim := { program := "ytdhdfdaclbfkiaa", sum := "5129ab646a1a996a1c3baa7f471b523134b95b1a83159efb2786f777e8ef4e55", func := "acme/acmetop.TopBoltThread", spec := "topBoltThread", unfollowed := true, recurses := true, apart := false }
def TopBoltThreadSaid : Prop := topBoltThreadRow.holds Try.pinned (OpenSpec.ofChange topBoltThreadSpec)

/-- ITS FALSE NEIGHBOUR: 'it returns false'. Refute it at one input. -/
def topBoltThreadWrong : ChangeSpec := { name := "topBoltThread", fn := fun _ => fun
  | [d1, d2, d3] => { results := [.lit (.bool false)], args := [d1, d2, d3] }
  | _ => none }
def TopBoltThreadWrongFalsely : Prop := topBoltThreadRow.holds Try.pinned (OpenSpec.ofChange topBoltThreadWrong)

/-- 'acmetop.TopThreadFit': WHATEVER THE INPUT: true; the input reads as it did. -/
def topThreadFitSpec : ChangeSpec := { name := "topThreadFit", fn := fun _ => fun
  | [d1, d2, d3] => { results := [.lit (.bool true)], args := [d1, d2, d3] }
  | _ => none }
def topThreadFitRow : OpenClaim := { program := "ytdhdfdaclbfkiaa", sum := "5129ab646a1a996a1c3baa7f471b523134b95b1a83159efb2786f777e8ef4e55", func := "acme/acmetop.TopThreadFit", spec := "topThreadFit", unfollowed := true, recurses := true, apart := false }
def TopThreadFitSaid : Prop := topThreadFitRow.holds Try.pinned (OpenSpec.ofChange topThreadFitSpec)

/-- ITS FALSE NEIGHBOUR: 'it returns false'. Refute it at one input. -/
def topThreadFitWrong : ChangeSpec := { name := "topThreadFit", fn := fun _ => fun
  | [d1, d2, d3] => { results := [.lit (.bool false)], args := [d1, d2, d3] }
  | _ => none }
def TopThreadFitWrongFalsely : Prop := topThreadFitRow.holds Try.pinned (OpenSpec.ofChange topThreadFitWrong)

/-- 'acmetop.TopTurnsDeep': WHATEVER THE INPUT: true; the input reads as it did. -/
def topTurnsDeepSpec : ChangeSpec := { name := "topTurnsDeep", fn := fun _ => fun
  | [d1, d2, d3] => { results := [.lit (.bool true)], args := [d1, d2, d3] }
  | _ => none }
def topTurnsDeepRow : OpenClaim := { program := "ytdhdfdaclbfkiaa", sum := "5129ab646a1a996a1c3baa7f471b523134b95b1a83159efb2786f777e8ef4e55", func := "acme/acmetop.TopTurnsDeep", spec := "topTurnsDeep", unfollowed := true, recurses := true, apart := false }
def TopTurnsDeepSaid : Prop := topTurnsDeepRow.holds Try.pinned (OpenSpec.ofChange topTurnsDeepSpec)

/-- ITS FALSE NEIGHBOUR: 'it returns false'. Refute it at one input. -/
def topTurnsDeepWrong : ChangeSpec := { name := "topTurnsDeep", fn := fun _ => fun
  | [d1, d2, d3] => { results := [.lit (.bool false)], args := [d1, d2, d3] }
  | _ => none }
def TopTurnsDeepWrongFalsely : Prop := topTurnsDeepRow.holds Try.pinned (OpenSpec.ofChange topTurnsDeepWrong)

/-- 'acmetop.TopLossFlange': WHATEVER THE INPUT: true; the input reads as it did. -/
def topLossFlangeSpec : ChangeSpec := { name := "topLossFlange", fn := fun _ => fun
  | [d1, d2, d3] => { results := [.lit (.bool true)], args := [d1, d2, d3] }
  | _ => none }
def topLossFlangeRow : OpenClaim := { program := "ytdhdfdaclbfkiaa", sum := "5129ab646a1a996a1c3baa7f471b523134b95b1a83159efb2786f777e8ef4e55", func := "acme/acmetop.TopLossFlange", spec := "topLossFlange", unfollowed := true, recurses := true, apart := false }
def TopLossFlangeSaid : Prop := topLossFlangeRow.holds Try.pinned (OpenSpec.ofChange topLossFlangeSpec)

/-- ITS FALSE NEIGHBOUR: 'it returns false'. Refute it at one input. -/
def topLossFlangeWrong : ChangeSpec := { name := "topLossFlange", fn := fun _ => fun
  | [d1, d2, d3] => { results := [.lit (.bool false)], args := [d1, d2, d3] }
  | _ => none }
def TopLossFlangeWrongFalsely : Prop := topLossFlangeRow.holds Try.pinned (OpenSpec.ofChange topLossFlangeWrong)

/-- 'acmetop.TopWidthFit': WHATEVER THE INPUT: true; the input reads as it did. -/
def topWidthFitSpec : ChangeSpec := { name := "topWidthFit", fn := fun _ => fun
  | [d1, d2, d3] => { results := [.lit (.bool true)], args := [d1, d2, d3] }
  | _ => none }
def topWidthFitRow : OpenClaim := { program := "ytdhdfdaclbfkiaa", sum := "5129ab646a1a996a1c3baa7f471b523134b95b1a83159efb2786f777e8ef4e55", func := "acme/acmetop.TopWidthFit", spec := "topWidthFit", unfollowed := true, recurses := true, apart := false }
def TopWidthFitSaid : Prop := topWidthFitRow.holds Try.pinned (OpenSpec.ofChange topWidthFitSpec)

/-- ITS FALSE NEIGHBOUR: 'it returns false'. Refute it at one input. -/
def topWidthFitWrong : ChangeSpec := { name := "topWidthFit", fn := fun _ => fun
  | [d1, d2, d3] => { results := [.lit (.bool false)], args := [d1, d2, d3] }
  | _ => none }
def TopWidthFitWrongFalsely : Prop := topWidthFitRow.holds Try.pinned (OpenSpec.ofChange topWidthFitWrong)

/-- 'acmetop.TopRoomPlace': WHATEVER THE INPUT: true; the input reads as it did. -/
def topRoomPlaceSpec : ChangeSpec := { name := "topRoomPlace", fn := fun _ => fun
  | [d1, d2, d3] => { results := [.lit (.bool true)], args := [d1, d2, d3] }
  | _ => none }
def topRoomPlaceRow : OpenClaim := { program := "ytdhdfdaclbfkiaa", sum := "5129ab646a1a996a1c3baa7f471b523134b95b1a83159efb2786f777e8ef4e55", func := "acme/acmetop.TopRoomPlace", spec := "topRoomPlace", unfollowed := true, recurses := true, apart := false }
def TopRoomPlaceSaid : Prop := topRoomPlaceRow.holds Try.pinned (OpenSpec.ofChange topRoomPlaceSpec)

/-- ITS FALSE NEIGHBOUR: 'it returns false'. Refute it at one input. -/
def topRoomPlaceWrong : ChangeSpec := { name := "topRoomPlace", fn := fun _ => fun
  | [d1, d2, d3] => { results := [.lit (.bool false)], args := [d1, d2, d3] }
  | _ => none }
def TopRoomPlaceWrongFalsely : Prop := topRoomPlaceRow.holds Try.pinned (OpenSpec.ofChange topRoomPlaceWrong)

/- THE SECOND FORM. 'bulk': how many values and letters a reading holds, each counted each time it is reached (what is shared counts as often as it is met; a slice's spare places count too). A statement '..UptoSaid' is the law's where the arguments, and the package variables that the reading takes, are together of bulk at most 1048576: NARROWER than '..Said'. Prove '..Said' where nothing that the law and all that it calls make is longer than what came in: it says more and counts as full. Else prove '..UptoSaid'. A law counts once. -/
mutual
def uptoBulk {H : Type} : DataW H → Nat
  | .lit (.string bytes) => bytes.length + 1
  | .lit _ => 1
  | .nil => 1
  | .ptr d => uptoBulk d + 1
  | .slice elems spare => uptoBulkAll elems + uptoBulkAll spare + 1
  | .agg parts => uptoBulkAll parts + 1
  | .iface _ d => uptoBulk d + 1
  | .map entries => uptoBulkEntries entries + 1
  | .held _ => 1
def uptoBulkAll {H : Type} : List (DataW H) → Nat
  | [] => 0
  | d :: r => uptoBulk d + uptoBulkAll r
def uptoBulkEntries {H : Type} : List (Lit × DataW H) → Nat
  | [] => 0
  | x :: r => uptoBulkEntry x + uptoBulkEntries r
def uptoBulkEntry {H : Type} : Lit × DataW H → Nat
  | (.string bytes, d) => bytes.length + uptoBulk d + 1
  | (_, d) => uptoBulk d + 1
 end
def uptoSmall : (H : Type) → List (DataW H) → Bool := fun _ ds => decide (uptoBulkAll ds ≤ 1048576)
def OpenSpec.upto (s : _root_.Go.ChangeSpec) : _root_.Go.OpenSpec := { _root_.Go.OpenSpec.ofChange s with cond := some uptoSmall }

/-- 'acmetop.TopBoltZone', WHERE WHAT IT READS IS OF BULK AT MOST 1048576: true; the input reads as it did. -/
def topBoltZoneUptoRow : OpenClaim := { program := "ytdhdfdaclbfkiaa", sum := "5129ab646a1a996a1c3baa7f471b523134b95b1a83159efb2786f777e8ef4e55", func := "acme/acmetop.TopBoltZone", spec := "topBoltZone", unfollowed := true, recurses := true, apart := false, narrowed := true }
def TopBoltZoneUptoSaid : Prop := topBoltZoneUptoRow.holds Try.pinned (OpenSpec.upto topBoltZoneSpec)

/-- 'acmetop.TopBoltThread', WHERE WHAT IT READS IS OF BULK AT MOST 1048576: true; the input reads as it did. -/
def topBoltThreadUptoRow : OpenClaim := { program := "ytdhdfdaclbfkiaa", sum := "5129ab646a1a996a1c3baa7f471b523134b95b1a83159efb2786f777e8ef4e55", func := "acme/acmetop.TopBoltThread", spec := "topBoltThread", unfollowed := true, recurses := true, apart := false, narrowed := true }
def TopBoltThreadUptoSaid : Prop := topBoltThreadUptoRow.holds Try.pinned (OpenSpec.upto topBoltThreadSpec)

/-- 'acmetop.TopThreadFit', WHERE WHAT IT READS IS OF BULK AT MOST 1048576: true; the input reads as it did. -/
def topThreadFitUptoRow : OpenClaim := { program := "ytdhdfdaclbfkiaa", sum := "5129ab646a1a996a1c3baa7f471b523134b95b1a83159efb2786f777e8ef4e55", func := "acme/acmetop.TopThreadFit", spec := "topThreadFit", unfollowed := true, recurses := true, apart := false, narrowed := true }
def TopThreadFitUptoSaid : Prop := topThreadFitUptoRow.holds Try.pinned (OpenSpec.upto topThreadFitSpec)

/-- 'acmetop.TopTurnsDeep', WHERE WHAT IT READS IS OF BULK AT MOST 1048576: true; the input reads as it did. -/
def topTurnsDeepUptoRow : OpenClaim := { program := "ytdhdfdaclbfkiaa", sum := "5129ab646a1a996a1c3baa7f471b523134b95b1a83159efb2786f777e8ef4e55", func := "acme/acmetop.TopTurnsDeep", spec := "topTurnsDeep", unfollowed := true, recurses := true, apart := false, narrowed := true }
def TopTurnsDeepUptoSaid : Prop := topTurnsDeepUptoRow.holds Try.pinned (OpenSpec.upto topTurnsDeepSpec)

/-- 'acmetop.TopLossFlange', WHERE WHAT IT READS IS OF BULK AT MOST 1048576: true; the input reads as it did. -/
def topLossFlangeUptoRow : OpenClaim := { program := "ytdhdfdaclbfkiaa", sum := "5129ab646a1a996a1c3baa7f471b523134b95b1a83159efb2786f777e8ef4e55", func := "acme/acmetop.TopLossFlange", spec := "topLossFlange", unfollowed := true, recurses := true, apart := false, narrowed := true }
def TopLossFlangeUptoSaid : Prop := topLossFlangeUptoRow.holds Try.pinned (OpenSpec.upto topLossFlangeSpec)

/-- 'acmetop.TopWidthFit', WHERE WHAT IT READS IS OF BULK AT MOST 1048576: true; the input reads as it did. -/
def topWidthFitUptoRow : OpenClaim := { program := "ytdhdfdaclbfkiaa", sum := "5129ab646a1a996a1c3baa7f471b523134b95b1a83159efb2786f777e8ef4e55", func := "acme/acmetop.TopWidthFit", spec := "topWidthFit", unfollowed := true, recurses := true, apart := false, narrowed := true }
def TopWidthFitUptoSaid : Prop := topWidthFitUptoRow.holds Try.pinned (OpenSpec.upto topWidthFitSpec)

/-- 'acmetop.TopRoomPlace', WHERE WHAT IT READS IS OF BULK AT MOST 1048576: true; the input reads as it did. -/
def topRoomPlaceUptoRow : OpenClaim := { program := "ytdhdfdaclbfkiaa", sum := "5129ab646a1a996a1c3baa7f471b523134b95b1a83159efb2786f777e8ef4e55", func := "acme/acmetop.TopRoomPlace", spec := "topRoomPlace", unfollowed := true, recurses := true, apart := false, narrowed := true }
def TopRoomPlaceUptoSaid : Prop := topRoomPlaceUptoRow.holds Try.pinned (OpenSpec.upto topRoomPlaceSpec)

end Rows
end Go.Proofs.Ytdhdfdaclbfkiaa
