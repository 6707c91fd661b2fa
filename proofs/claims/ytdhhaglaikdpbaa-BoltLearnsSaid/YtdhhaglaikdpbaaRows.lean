/-
  No cell of these rows narrows 'for every input' (looked for: loops, veiled, ifaces, maps, wideKeys, modest, calm, conditions, laid).
  DERIVED. THE GIVEN ROWS OF THIS SEAT. 11 by the template 'for every input the law returns true; each argument reads behind the call as it read before'; 0 by the template 'total and deterministic' (their statements: YtdhhaglaikdpbaaTotals.lean).
  GIVEN WITH THE SEED: the statements are not yours to turn. If you find one false, say at which input.
  Laid BY PROGRAM, IN A SANDBOX (cutbox-rows.mjs): the forced cells as the released guide's own fill.sh prints them over the translation 4f9be604086c2f27… (all of the seat's roots in one cut). By AI agents, Wed Nov 11 2026. No macro, syntax, notation, axiom, sorry.
-/
import Derived.Test.YtdhhaglaikdpbaaChecked
import GoSem.Claim
import GoSem.ClaimJoined
import GoSem.ClaimMapViews
import Derived.JoinedTies
import Derived.KernelRfl
namespace Go.Proofs.Ytdhhaglaikdpbaa
/- THE CELL 'sum', in the pinned program and in every row, IS THE sha256 OF THE DUMP (.gsa) THAT YtdhhaglaikdpbaaProg.lean LOADS. Nothing in Lean hashes anything: it is a label: what it is worth is what the hold of that sum in a sandbox is worth. -/
noncomputable def Try.pinned : Pinned := { name := "ytdhhaglaikdpbaa", sum := "4f9be604086c2f2794c0e9343f02d24904da3e16c8cbdff6e5213f663a1a3ef2", checked := Try.checked }
namespace Rows
def none {H : Type} : Left H := { results := [], args := [] }

/-- 'acmelaw09.BoltForces': WHATEVER THE INPUT: true; the input reads as it did. -/
def boltForcesSpec : ChangeSpec := { name := "boltForces", fn := fun _ => fun
  | [d1, d2, d3] => { results := [.lit (.bool true)], args := [d1, d2, d3] }
  | _ => none }
def boltForcesRow : OpenClaim := { program := "ytdhhaglaikdpbaa", sum := "4f9be604086c2f2794c0e9343f02d24904da3e16c8cbdff6e5213f663a1a3ef2", func := "acme/acmelaw09.BoltForces", spec := "boltForces", unfollowed := true, recurses := true, apart := false }
def BoltForcesSaid : Prop := boltForcesRow.holds Try.pinned (OpenSpec.ofChange boltForcesSpec)

/-- ITS FALSE NEIGHBOUR: 'it returns false'. Refute it at one input. -/
def boltForcesWrong : ChangeSpec := { name := "boltForces", fn := fun _ => fun
  | [d1, d2, d3] => { results := [.lit (.bool false)], args := [d1, d2, d3] }
  | _ => none }
def BoltForcesWrongFalsely : Prop := boltForcesRow.holds Try.pinned (OpenSpec.ofChange boltForcesWrong)

/-- 'acmelaw09.BoltTorques': WHATEVER THE INPUT: true; the input reads as it did. -/
def boltTorquesSpec : ChangeSpec := { name := "boltTorques", fn := fun _ => fun
  | [d1, d2] => { results := [.lit (.bool true)], args := [d1, d2] }
  | _ => none }
def boltTorquesRow : OpenClaim := { program := "ytdhhaglaikdpbaa", sum := "4f9be604086c2f2794c0e9343f02d24904da3e16c8cbdff6e5213f663a1a3ef2", func := "acme/acmelaw09.BoltTorques", spec := "boltTorques", unfollowed := true, recurses := true, apart := false }
def BoltTorquesSaid : Prop := boltTorquesRow.holds Try.pinned (OpenSpec.ofChange boltTorquesSpec)

/-- ITS FALSE NEIGHBOUR: 'it returns false'. Refute it at one input. -/
def boltTorquesWrong : ChangeSpec := { name := "boltTorques", fn := fun _ => fun
  | [d1, d2] => { results := [.lit (.bool false)], args := [d1, d2] }
  | _ => none }
def BoltTorquesWrongFalsely : Prop := boltTorquesRow.holds Try.pinned (OpenSpec.ofChange boltTorquesWrong)

/-- 'acmelaw09.BoltBests': WHATEVER THE INPUT: true; the input reads as it did. -/
def boltBestsSpec : ChangeSpec := { name := "boltBests", fn := fun _ => fun
  | [d1, d2, d3] => { results := [.lit (.bool true)], args := [d1, d2, d3] }
  | _ => none }
def boltBestsRow : OpenClaim := { program := "ytdhhaglaikdpbaa", sum := "4f9be604086c2f2794c0e9343f02d24904da3e16c8cbdff6e5213f663a1a3ef2", func := "acme/acmelaw09.BoltBests", spec := "boltBests", unfollowed := true, recurses := true, apart := false }
def BoltBestsSaid : Prop := boltBestsRow.holds Try.pinned (OpenSpec.ofChange boltBestsSpec)

/-- ITS FALSE NEIGHBOUR: 'it returns false'. Refute it at one input. -/
def boltBestsWrong : ChangeSpec := { name := "boltBests", fn := fun _ => fun
  | [d1, d2, d3] => { results := [.lit (.bool false)], args := [d1, d2, d3] }
  | _ => none }
def BoltBestsWrongFalsely : Prop := boltBestsRow.holds Try.pinned (OpenSpec.ofChange boltBestsWrong)

/-- 'acmelaw09.BoltLearns': WHATEVER THE INPUT: true; the input reads as it did. -/
def boltLearnsSpec : ChangeSpec := { name := "boltLearns", fn := fun _ => fun
  | [d1, d2, d3] => { results := [.lit (.bool true)], args := [d1, d2, d3] }
  | _ => none }
def boltLearnsRow : OpenClaim := { program := "ytdhhaglaikdpbaa", sum := "4f9be604086c2f2794c0e9343f02d24904da3e16c8cbdff6e5213f663a1a3ef2", func := "acme/acmelaw09.BoltLearns", spec := "boltLearns", unfollowed := true, recurses := true, apart := false }
def BoltLearnsSaid : Prop := boltLearnsRow.holds Try.pinned (OpenSpec.ofChange boltLearnsSpec)

/-- ITS FALSE NEIGHBOUR: 'it returns false'. Refute it at one input. -/
def boltLearnsWrong : ChangeSpec := { name := "boltLearns", fn := fun _ => fun
  | [d1, d2, d3] => { results := [.lit (.bool false)], args := [d1, d2, d3] }
  | _ => none }
def BoltLearnsWrongFalsely : Prop := boltLearnsRow.holds Try.pinned (OpenSpec.ofChange boltLearnsWrong)

/-- 'acmelaw09.BoltTrue': WHATEVER THE INPUT: true; the input reads as it did. -/
def boltTrueSpec : ChangeSpec := { name := "boltTrue", fn := fun _ => fun
  | [d1, d2] => { results := [.lit (.bool true)], args := [d1, d2] }
  | _ => none }
def boltTrueRow : OpenClaim := { program := "ytdhhaglaikdpbaa", sum := "4f9be604086c2f2794c0e9343f02d24904da3e16c8cbdff6e5213f663a1a3ef2", func := "acme/acmelaw09.BoltTrue", spec := "boltTrue", unfollowed := true, recurses := true, apart := false }
def BoltTrueSaid : Prop := boltTrueRow.holds Try.pinned (OpenSpec.ofChange boltTrueSpec)

/-- ITS FALSE NEIGHBOUR: 'it returns false'. Refute it at one input. -/
def boltTrueWrong : ChangeSpec := { name := "boltTrue", fn := fun _ => fun
  | [d1, d2] => { results := [.lit (.bool false)], args := [d1, d2] }
  | _ => none }
def BoltTrueWrongFalsely : Prop := boltTrueRow.holds Try.pinned (OpenSpec.ofChange boltTrueWrong)

/-- 'acmelaw09.BoltEnough': WHATEVER THE INPUT: true; the input reads as it did. -/
def boltEnoughSpec : ChangeSpec := { name := "boltEnough", fn := fun _ => fun
  | [d1, d2, d3] => { results := [.lit (.bool true)], args := [d1, d2, d3] }
  | _ => none }
def boltEnoughRow : OpenClaim := { program := "ytdhhaglaikdpbaa", sum := "4f9be604086c2f2794c0e9343f02d24904da3e16c8cbdff6e5213f663a1a3ef2", func := "acme/acmelaw09.BoltEnough", spec := "boltEnough", unfollowed := true, recurses := true, apart := false }
def BoltEnoughSaid : Prop := boltEnoughRow.holds Try.pinned (OpenSpec.ofChange boltEnoughSpec)

/-- ITS FALSE NEIGHBOUR: 'it returns false'. Refute it at one input. -/
def boltEnoughWrong : ChangeSpec := { name := "boltEnough", fn := fun _ => fun
  | [d1, d2, d3] => { results := [.lit (.bool false)], args := [d1, d2, d3] }
  | _ => none }
def BoltEnoughWrongFalsely : Prop := boltEnoughRow.holds Try.pinned (OpenSpec.ofChange boltEnoughWrong)

/-- 'acmelaw09.BoltRights': WHATEVER THE INPUT: true; the input reads as it did. -/
def boltRightsSpec : ChangeSpec := { name := "boltRights", fn := fun _ => fun
  | [d1, d2, d3] => { results := [.lit (.bool true)], args := [d1, d2, d3] }
  | _ => none }
def boltRightsRow : OpenClaim := { program := "ytdhhaglaikdpbaa", sum := "4f9be604086c2f2794c0e9343f02d24904da3e16c8cbdff6e5213f663a1a3ef2", func := "acme/acmelaw09.BoltRights", spec := "boltRights", unfollowed := true, recurses := true, apart := false }
def BoltRightsSaid : Prop := boltRightsRow.holds Try.pinned (OpenSpec.ofChange boltRightsSpec)

/-- ITS FALSE NEIGHBOUR: 'it returns false'. Refute it at one input. -/
def boltRightsWrong : ChangeSpec := { name := "boltRights", fn := fun _ => fun
  | [d1, d2, d3] => { results := [.lit (.bool false)], args := [d1, d2, d3] }
  | _ => none }
def BoltRightsWrongFalsely : Prop := boltRightsRow.holds Try.pinned (OpenSpec.ofChange boltRightsWrong)

/-- 'acmelaw09.BoltLearned': WHATEVER THE INPUT: true; the input reads as it did. -/
def boltLearnedSpec : ChangeSpec := { name := "boltLearned", fn := fun _ => fun
  | [d1, d2] => { results := [.lit (.bool true)], args := [d1, d2] }
  | _ => none }
def boltLearnedRow : OpenClaim := { program := "ytdhhaglaikdpbaa", sum := "4f9be604086c2f2794c0e9343f02d24904da3e16c8cbdff6e5213f663a1a3ef2", func := "acme/acmelaw09.BoltLearned", spec := "boltLearned", unfollowed := true, recurses := true, apart := false }
def BoltLearnedSaid : Prop := boltLearnedRow.holds Try.pinned (OpenSpec.ofChange boltLearnedSpec)

/-- ITS FALSE NEIGHBOUR: 'it returns false'. Refute it at one input. -/
def boltLearnedWrong : ChangeSpec := { name := "boltLearned", fn := fun _ => fun
  | [d1, d2] => { results := [.lit (.bool false)], args := [d1, d2] }
  | _ => none }
def BoltLearnedWrongFalsely : Prop := boltLearnedRow.holds Try.pinned (OpenSpec.ofChange boltLearnedWrong)

/-- 'acmelaw09.BoltNarrows': WHATEVER THE INPUT: true; the input reads as it did. -/
def boltNarrowsSpec : ChangeSpec := { name := "boltNarrows", fn := fun _ => fun
  | [d1, d2, d3] => { results := [.lit (.bool true)], args := [d1, d2, d3] }
  | _ => none }
def boltNarrowsRow : OpenClaim := { program := "ytdhhaglaikdpbaa", sum := "4f9be604086c2f2794c0e9343f02d24904da3e16c8cbdff6e5213f663a1a3ef2", func := "acme/acmelaw09.BoltNarrows", spec := "boltNarrows", unfollowed := true, recurses := true, apart := false }
def BoltNarrowsSaid : Prop := boltNarrowsRow.holds Try.pinned (OpenSpec.ofChange boltNarrowsSpec)

/-- ITS FALSE NEIGHBOUR: 'it returns false'. Refute it at one input. -/
def boltNarrowsWrong : ChangeSpec := { name := "boltNarrows", fn := fun _ => fun
  | [d1, d2, d3] => { results := [.lit (.bool false)], args := [d1, d2, d3] }
  | _ => none }
def BoltNarrowsWrongFalsely : Prop := boltNarrowsRow.holds Try.pinned (OpenSpec.ofChange boltNarrowsWrong)

/-- 'acmelaw09.BoltLooses': WHATEVER THE INPUT: true; the input reads as it did. -/
def boltLoosesSpec : ChangeSpec := { name := "boltLooses", fn := fun _ => fun
  | [d1, d2] => { results := [.lit (.bool true)], args := [d1, d2] }
  | _ => none }
def boltLoosesRow : OpenClaim := { program := "ytdhhaglaikdpbaa", sum := "4f9be604086c2f2794c0e9343f02d24904da3e16c8cbdff6e5213f663a1a3ef2", func := "acme/acmelaw09.BoltLooses", spec := "boltLooses", unfollowed := true, recurses := true, apart := false }
def BoltLoosesSaid : Prop := boltLoosesRow.holds Try.pinned (OpenSpec.ofChange boltLoosesSpec)

/-- ITS FALSE NEIGHBOUR: 'it returns false'. Refute it at one input. -/
def boltLoosesWrong : ChangeSpec := { name := "boltLooses", fn := fun _ => fun
  | [d1, d2] => { results := [.lit (.bool false)], args := [d1, d2] }
  | _ => none }
def BoltLoosesWrongFalsely : Prop := boltLoosesRow.holds Try.pinned (OpenSpec.ofChange boltLoosesWrong)

/-- 'acmelaw09.BoltLoosening': WHATEVER THE INPUT: true; the input reads as it did. -/
def boltLooseningSpec : ChangeSpec := { name := "boltLoosening", fn := fun _ => fun
  | [d1, d2] => { results := [.lit (.bool true)], args := [d1, d2] }
  | _ => none }
def boltLooseningRow : OpenClaim := { program := "ytdhhaglaikdpbaa", sum := "4f9be604086c2f2794c0e9343f02d24904da3e16c8cbdff6e5213f663a1a3ef2", func := "acme/acmelaw09.BoltLoosening", spec := "boltLoosening", unfollowed := true, recurses := true, apart := false }
def BoltLooseningSaid : Prop := boltLooseningRow.holds Try.pinned (OpenSpec.ofChange boltLooseningSpec)

/-- ITS FALSE NEIGHBOUR: 'it returns false'. Refute it at one input. -/
def boltLooseningWrong : ChangeSpec := { name := "boltLoosening", fn := fun _ => fun
  | [d1, d2] => { results := [.lit (.bool false)], args := [d1, d2] }
  | _ => none }
def BoltLooseningWrongFalsely : Prop := boltLooseningRow.holds Try.pinned (OpenSpec.ofChange boltLooseningWrong)

/- THE SECOND FORM. 'bulk': how many values and letters a reading holds, each counted each time it is reached (what is shared counts as often as it is met; a slice's spare places count too). A statement '..UptoSaid' is the law's where the arguments, and the package variables that the reading takes, are together of bulk at most 1048576: NARROWER than '..Said'. Prove '..Said' where nothing that the law and all that it calls make is longer than what came in: it says more and counts as full. Else prove '..UptoSaid'. A law counts once. -/
mutual
def uptoBulk {H : Type} : DataW H → Nat
  | .lit (.string bytes) => bytes.length + 1
  | .lit _ => 1
  | .nil => 1
  | .ptr d => uptoBulk d + 1
  | .slice elems spare => uptoBulkAll elems + uptoBulkAll spare + 1
  | .agg parts => uptoBulkAll parts + 1
  | .iface _ d => uptoBulk d + 1
  | .map entries => uptoBulkEntries entries + 1
  | .held _ => 1
def uptoBulkAll {H : Type} : List (DataW H) → Nat
  | [] => 0
  | d :: r => uptoBulk d + uptoBulkAll r
def uptoBulkEntries {H : Type} : List (Lit × DataW H) → Nat
  | [] => 0
  | x :: r => uptoBulkEntry x + uptoBulkEntries r
def uptoBulkEntry {H : Type} : Lit × DataW H → Nat
  | (.string bytes, d) => bytes.length + uptoBulk d + 1
  | (_, d) => uptoBulk d + 1
 end
def uptoSmall : (H : Type) → List (DataW H) → Bool := fun _ ds => decide (uptoBulkAll ds ≤ 1048576)
def OpenSpec.upto (s : _root_.Go.ChangeSpec) : _root_.Go.OpenSpec := { _root_.Go.OpenSpec.ofChange s with cond := some uptoSmall }

/-- 'acmelaw09.BoltForces', WHERE WHAT IT READS IS OF BULK AT MOST 1048576: true; the input reads as it did. -/
def boltForcesUptoRow : OpenClaim := { program := "ytdhhaglaikdpbaa", sum := "4f9be604086c2f2794c0e9343f02d24904da3e16c8cbdff6e5213f663a1a3ef2", func := "acme/acmelaw09.BoltForces", spec := "boltForces", unfollowed := true, recurses := true, apart := false, narrowed := true }
def BoltForcesUptoSaid : Prop := boltForcesUptoRow.holds Try.pinned (OpenSpec.upto boltForcesSpec)

/-- 'acmelaw09.BoltTorques', WHERE WHAT IT READS IS OF BULK AT MOST 1048576: true; the input reads as it did. -/
def boltTorquesUptoRow : OpenClaim := { program := "ytdhhaglaikdpbaa", sum := "4f9be604086c2f2794c0e9343f02d24904da3e16c8cbdff6e5213f663a1a3ef2", func := "acme/acmelaw09.BoltTorques", spec := "boltTorques", unfollowed := true, recurses := true, apart := false, narrowed := true }
def BoltTorquesUptoSaid : Prop := boltTorquesUptoRow.holds Try.pinned (OpenSpec.upto boltTorquesSpec)

/-- 'acmelaw09.BoltBests', WHERE WHAT IT READS IS OF BULK AT MOST 1048576: true; the input reads as it did. -/
def boltBestsUptoRow : OpenClaim := { program := "ytdhhaglaikdpbaa", sum := "4f9be604086c2f2794c0e9343f02d24904da3e16c8cbdff6e5213f663a1a3ef2", func := "acme/acmelaw09.BoltBests", spec := "boltBests", unfollowed := true, recurses := true, apart := false, narrowed := true }
def BoltBestsUptoSaid : Prop := boltBestsUptoRow.holds Try.pinned (OpenSpec.upto boltBestsSpec)

/-- 'acmelaw09.BoltLearns', WHERE WHAT IT READS IS OF BULK AT MOST 1048576: true; the input reads as it did. -/
def boltLearnsUptoRow : OpenClaim := { program := "ytdhhaglaikdpbaa", sum := "4f9be604086c2f2794c0e9343f02d24904da3e16c8cbdff6e5213f663a1a3ef2", func := "acme/acmelaw09.BoltLearns", spec := "boltLearns", unfollowed := true, recurses := true, apart := false, narrowed := true }
def BoltLearnsUptoSaid : Prop := boltLearnsUptoRow.holds Try.pinned (OpenSpec.upto boltLearnsSpec)

/-- 'acmelaw09.BoltTrue', WHERE WHAT IT READS IS OF BULK AT MOST 1048576: true; the input reads as it did. -/
def boltTrueUptoRow : OpenClaim := { program := "ytdhhaglaikdpbaa", sum := "4f9be604086c2f2794c0e9343f02d24904da3e16c8cbdff6e5213f663a1a3ef2", func := "acme/acmelaw09.BoltTrue", spec := "boltTrue", unfollowed := true, recurses := true, apart := false, narrowed := true }
def BoltTrueUptoSaid : Prop := boltTrueUptoRow.holds Try.pinned (OpenSpec.upto boltTrueSpec)

/-- 'acmelaw09.BoltEnough', WHERE WHAT IT READS IS OF BULK AT MOST 1048576: true; the input reads as it did. -/
def boltEnoughUptoRow : OpenClaim := { program := "ytdhhaglaikdpbaa", sum := "4f9be604086c2f2794c0e9343f02d24904da3e16c8cbdff6e5213f663a1a3ef2", func := "acme/acmelaw09.BoltEnough", spec := "boltEnough", unfollowed := true, recurses := true, apart := false, narrowed := true }
def BoltEnoughUptoSaid : Prop := boltEnoughUptoRow.holds Try.pinned (OpenSpec.upto boltEnoughSpec)

/-- 'acmelaw09.BoltRights', WHERE WHAT IT READS IS OF BULK AT MOST 1048576: true; the input reads as it did. -/
def boltRightsUptoRow : OpenClaim := { program := "ytdhhaglaikdpbaa", sum := "4f9be604086c2f2794c0e9343f02d24904da3e16c8cbdff6e5213f663a1a3ef2", func := "acme/acmelaw09.BoltRights", spec := "boltRights", unfollowed := true, recurses := true, apart := false, narrowed := true }
def BoltRightsUptoSaid : Prop := boltRightsUptoRow.holds Try.pinned (OpenSpec.upto boltRightsSpec)

/-- 'acmelaw09.BoltLearned', WHERE WHAT IT READS IS OF BULK AT MOST 1048576: true; the input reads as it did. -/
def boltLearnedUptoRow : OpenClaim := { program := "ytdhhaglaikdpbaa", sum := "4f9be604086c2f2794c0e9343f02d24904da3e16c8cbdff6e5213f663a1a3ef2", func := "acme/acmelaw09.BoltLearned", spec := "boltLearned", unfollowed := true, recurses := true, apart := false, narrowed := true }
def BoltLearnedUptoSaid : Prop := boltLearnedUptoRow.holds Try.pinned (OpenSpec.upto boltLearnedSpec)

/-- 'acmelaw09.BoltNarrows', WHERE WHAT IT READS IS OF BULK AT MOST 1048576: true; the input reads as it did. -/
def boltNarrowsUptoRow : OpenClaim := { program := "ytdhhaglaikdpbaa", sum := "4f9be604086c2f2794c0e9343f02d24904da3e16c8cbdff6e5213f663a1a3ef2", func := "acme/acmelaw09.BoltNarrows", spec := "boltNarrows", unfollowed := true, recurses := true, apart := false, narrowed := true }
def BoltNarrowsUptoSaid : Prop := boltNarrowsUptoRow.holds Try.pinned (OpenSpec.upto boltNarrowsSpec)

/-- 'acmelaw09.BoltLooses', WHERE WHAT IT READS IS OF BULK AT MOST 1048576: true; the input reads as it did. -/
def boltLoosesUptoRow : OpenClaim := { program := "ytdhhaglaikdpbaa", sum := "4f9be604086c2f2794c0e9343f02d24904da3e16c8cbdff6e5213f663a1a3ef2", func := "acme/acmelaw09.BoltLooses", spec := "boltLooses", unfollowed := true, recurses := true, apart := false, narrowed := true }
def BoltLoosesUptoSaid : Prop := boltLoosesUptoRow.holds Try.pinned (OpenSpec.upto boltLoosesSpec)

/-- 'acmelaw09.BoltLoosening', WHERE WHAT IT READS IS OF BULK AT MOST 1048576: true; the input reads as it did. -/
def boltLooseningUptoRow : OpenClaim := { program := "ytdhhaglaikdpbaa", sum := "4f9be604086c2f2794c0e9343f02d24904da3e16c8cbdff6e5213f663a1a3ef2", func := "acme/acmelaw09.BoltLoosening", spec := "boltLoosening", unfollowed := true, recurses := true, apart := false, narrowed := true }
def BoltLooseningUptoSaid : Prop := boltLooseningUptoRow.holds Try.pinned (OpenSpec.upto boltLooseningSpec)

end Rows
end Go.Proofs.Ytdhhaglaikdpbaa
