/-
  No cell of these rows narrows 'for every input' (looked for: loops, veiled, ifaces, maps, wideKeys, modest, calm, conditions, laid).
  DERIVED. THE GIVEN ROWS OF THIS SEAT. 10 by the template 'for every input the law returns true; each argument reads behind the call as it read before'; 0 by the template 'total and deterministic' (their statements: YtlbpfmnobapidaaTotals.lean).
  GIVEN WITH THE SEED: the statements are not yours to turn. If you find one false, say at which input.
  Laid BY PROGRAM, IN A SANDBOX (cutbox-rows.mjs): the forced cells as the released guide's own fill.sh prints them over the translation 4d823e167b536ab7… (all of the seat's roots in one cut). By AI agents, Wed Nov 11 2026. No macro, syntax, notation, axiom, sorry.
-/
import Derived.Test.YtlbpfmnobapidaaChecked
import GoSem.Claim
import GoSem.ClaimJoined
import GoSem.ClaimMapViews
import Derived.JoinedTies
import Derived.KernelRfl
namespace Go.Proofs.Ytlbpfmnobapidaa
/- THE CELL 'sum', in the pinned program and in every row, IS THE sha256 OF THE DUMP (.gsa) THAT YtlbpfmnobapidaaProg.lean LOADS. Nothing in Lean hashes anything: it is a label: what it is worth is what the hold of that sum in a sandbox is worth. -/
noncomputable def Try.pinned : Pinned := { name := "ytlbpfmnobapidaa", sum := "4d823e167b536ab76b140fb4b14d581f2bb95d11e21e2bbf4c7ed7159e1668a7", checked := Try.checked }
namespace Rows
def none {H : Type} : Left H := { results := [], args := [] }

/-- 'acmelaw07.DieTargets': WHATEVER THE INPUT: true; the input reads as it did. -/
def dieTargetsSpec : ChangeSpec := { name := "dieTargets", fn := fun _ => fun
  | [d1, d2, d3] => { results := [.lit (.bool true)], args := [d1, d2, d3] }
  | _ => none }
def dieTargetsRow : OpenClaim := { program := "ytlbpfmnobapidaa", sum := "4d823e167b536ab76b140fb4b14d581f2bb95d11e21e2bbf4c7ed7159e1668a7", func := "acme/acmelaw07.DieTargets", spec := "dieTargets", unfollowed := true, recurses := true, apart := false }
def DieTargetsSaid : Prop := dieTargetsRow.holds Try.pinned (OpenSpec.ofChange dieTargetsSpec)

/-- ITS FALSE NEIGHBOUR: 'it returns false'. Refute it at one input. -/
def dieTargetsWrong : ChangeSpec := { name := "dieTargets", fn := fun _ => fun
  | [d1, d2, d3] => { results := [.lit (.bool false)], args := [d1, d2, d3] }
  | _ => none }
def DieTargetsWrongFalsely : Prop := dieTargetsRow.holds Try.pinned (OpenSpec.ofChange dieTargetsWrong)

/-- 'acmelaw07.DiePlans': WHATEVER THE INPUT: true; the input reads as it did. -/
def diePlansSpec : ChangeSpec := { name := "diePlans", fn := fun _ => fun
  | [d1, d2, d3] => { results := [.lit (.bool true)], args := [d1, d2, d3] }
  | _ => none }
def diePlansRow : OpenClaim := { program := "ytlbpfmnobapidaa", sum := "4d823e167b536ab76b140fb4b14d581f2bb95d11e21e2bbf4c7ed7159e1668a7", func := "acme/acmelaw07.DiePlans", spec := "diePlans", unfollowed := true, recurses := true, apart := false }
def DiePlansSaid : Prop := diePlansRow.holds Try.pinned (OpenSpec.ofChange diePlansSpec)

/-- ITS FALSE NEIGHBOUR: 'it returns false'. Refute it at one input. -/
def diePlansWrong : ChangeSpec := { name := "diePlans", fn := fun _ => fun
  | [d1, d2, d3] => { results := [.lit (.bool false)], args := [d1, d2, d3] }
  | _ => none }
def DiePlansWrongFalsely : Prop := diePlansRow.holds Try.pinned (OpenSpec.ofChange diePlansWrong)

/-- 'acmelaw07.DieMosts': WHATEVER THE INPUT: true; the input reads as it did. -/
def dieMostsSpec : ChangeSpec := { name := "dieMosts", fn := fun _ => fun
  | [d1, d2, d3] => { results := [.lit (.bool true)], args := [d1, d2, d3] }
  | _ => none }
def dieMostsRow : OpenClaim := { program := "ytlbpfmnobapidaa", sum := "4d823e167b536ab76b140fb4b14d581f2bb95d11e21e2bbf4c7ed7159e1668a7", func := "acme/acmelaw07.DieMosts", spec := "dieMosts", unfollowed := true, recurses := true, apart := false }
def DieMostsSaid : Prop := dieMostsRow.holds Try.pinned (OpenSpec.ofChange dieMostsSpec)

/-- ITS FALSE NEIGHBOUR: 'it returns false'. Refute it at one input. -/
def dieMostsWrong : ChangeSpec := { name := "dieMosts", fn := fun _ => fun
  | [d1, d2, d3] => { results := [.lit (.bool false)], args := [d1, d2, d3] }
  | _ => none }
def DieMostsWrongFalsely : Prop := dieMostsRow.holds Try.pinned (OpenSpec.ofChange dieMostsWrong)

/-- 'acmelaw07.DieJudges': WHATEVER THE INPUT: true; the input reads as it did. -/
def dieJudgesSpec : ChangeSpec := { name := "dieJudges", fn := fun _ => fun
  | [d1, d2, d3] => { results := [.lit (.bool true)], args := [d1, d2, d3] }
  | _ => none }
def dieJudgesRow : OpenClaim := { program := "ytlbpfmnobapidaa", sum := "4d823e167b536ab76b140fb4b14d581f2bb95d11e21e2bbf4c7ed7159e1668a7", func := "acme/acmelaw07.DieJudges", spec := "dieJudges", unfollowed := true, recurses := true, apart := false }
def DieJudgesSaid : Prop := dieJudgesRow.holds Try.pinned (OpenSpec.ofChange dieJudgesSpec)

/-- ITS FALSE NEIGHBOUR: 'it returns false'. Refute it at one input. -/
def dieJudgesWrong : ChangeSpec := { name := "dieJudges", fn := fun _ => fun
  | [d1, d2, d3] => { results := [.lit (.bool false)], args := [d1, d2, d3] }
  | _ => none }
def DieJudgesWrongFalsely : Prop := dieJudgesRow.holds Try.pinned (OpenSpec.ofChange dieJudgesWrong)

/-- 'acmelaw07.DieLearns': WHATEVER THE INPUT: true; the input reads as it did. -/
def dieLearnsSpec : ChangeSpec := { name := "dieLearns", fn := fun _ => fun
  | [d1, d2] => { results := [.lit (.bool true)], args := [d1, d2] }
  | _ => none }
def dieLearnsRow : OpenClaim := { program := "ytlbpfmnobapidaa", sum := "4d823e167b536ab76b140fb4b14d581f2bb95d11e21e2bbf4c7ed7159e1668a7", func := "acme/acmelaw07.DieLearns", spec := "dieLearns", unfollowed := true, recurses := true, apart := false }
def DieLearnsSaid : Prop := dieLearnsRow.holds Try.pinned (OpenSpec.ofChange dieLearnsSpec)

/-- ITS FALSE NEIGHBOUR: 'it returns false'. Refute it at one input. -/
def dieLearnsWrong : ChangeSpec := { name := "dieLearns", fn := fun _ => fun
  | [d1, d2] => { results := [.lit (.bool false)], args := [d1, d2] }
  | _ => none }
def DieLearnsWrongFalsely : Prop := dieLearnsRow.holds Try.pinned (OpenSpec.ofChange dieLearnsWrong)

/-- 'acmelaw07.DieSure': WHATEVER THE INPUT: true; the input reads as it did. -/
def dieSureSpec : ChangeSpec := { name := "dieSure", fn := fun _ => fun
  | [d1, d2] => { results := [.lit (.bool true)], args := [d1, d2] }
  | _ => none }
def dieSureRow : OpenClaim := { program := "ytlbpfmnobapidaa", sum := "4d823e167b536ab76b140fb4b14d581f2bb95d11e21e2bbf4c7ed7159e1668a7", func := "acme/acmelaw07.DieSure", spec := "dieSure", unfollowed := true, recurses := true, apart := false }
def DieSureSaid : Prop := dieSureRow.holds Try.pinned (OpenSpec.ofChange dieSureSpec)

/-- ITS FALSE NEIGHBOUR: 'it returns false'. Refute it at one input. -/
def dieSureWrong : ChangeSpec := { name := "dieSure", fn := fun _ => fun
  | [d1, d2] => { results := [.lit (.bool false)], args := [d1, d2] }
  | _ => none }
def DieSureWrongFalsely : Prop := dieSureRow.holds Try.pinned (OpenSpec.ofChange dieSureWrong)

/-- 'acmelaw07.DieFewer': WHATEVER THE INPUT: true; the input reads as it did. -/
def dieFewerSpec : ChangeSpec := { name := "dieFewer", fn := fun _ => fun
  | [d1, d2] => { results := [.lit (.bool true)], args := [d1, d2] }
  | _ => none }
def dieFewerRow : OpenClaim := { program := "ytlbpfmnobapidaa", sum := "4d823e167b536ab76b140fb4b14d581f2bb95d11e21e2bbf4c7ed7159e1668a7", func := "acme/acmelaw07.DieFewer", spec := "dieFewer", unfollowed := true, recurses := true, apart := false }
def DieFewerSaid : Prop := dieFewerRow.holds Try.pinned (OpenSpec.ofChange dieFewerSpec)

/-- ITS FALSE NEIGHBOUR: 'it returns false'. Refute it at one input. -/
def dieFewerWrong : ChangeSpec := { name := "dieFewer", fn := fun _ => fun
  | [d1, d2] => { results := [.lit (.bool false)], args := [d1, d2] }
  | _ => none }
def DieFewerWrongFalsely : Prop := dieFewerRow.holds Try.pinned (OpenSpec.ofChange dieFewerWrong)

/-- 'acmelaw07.DieMore': WHATEVER THE INPUT: true; the input reads as it did. -/
def dieMoreSpec : ChangeSpec := { name := "dieMore", fn := fun _ => fun
  | [d1, d2] => { results := [.lit (.bool true)], args := [d1, d2] }
  | _ => none }
def dieMoreRow : OpenClaim := { program := "ytlbpfmnobapidaa", sum := "4d823e167b536ab76b140fb4b14d581f2bb95d11e21e2bbf4c7ed7159e1668a7", func := "acme/acmelaw07.DieMore", spec := "dieMore", unfollowed := true, recurses := true, apart := false }
def DieMoreSaid : Prop := dieMoreRow.holds Try.pinned (OpenSpec.ofChange dieMoreSpec)

/-- ITS FALSE NEIGHBOUR: 'it returns false'. Refute it at one input. -/
def dieMoreWrong : ChangeSpec := { name := "dieMore", fn := fun _ => fun
  | [d1, d2] => { results := [.lit (.bool false)], args := [d1, d2] }
  | _ => none }
def DieMoreWrongFalsely : Prop := dieMoreRow.holds Try.pinned (OpenSpec.ofChange dieMoreWrong)

/-- 'acmelaw07.DieLearned': WHATEVER THE INPUT: true; the input reads as it did. -/
def dieLearnedSpec : ChangeSpec := { name := "dieLearned", fn := fun _ => fun
  | [d1, d2, d3] => { results := [.lit (.bool true)], args := [d1, d2, d3] }
  | _ => none }
def dieLearnedRow : OpenClaim := { program := "ytlbpfmnobapidaa", sum := "4d823e167b536ab76b140fb4b14d581f2bb95d11e21e2bbf4c7ed7159e1668a7", func := "acme/acmelaw07.DieLearned", spec := "dieLearned", unfollowed := true, recurses := true, apart := false }
def DieLearnedSaid : Prop := dieLearnedRow.holds Try.pinned (OpenSpec.ofChange dieLearnedSpec)

/-- ITS FALSE NEIGHBOUR: 'it returns false'. Refute it at one input. -/
def dieLearnedWrong : ChangeSpec := { name := "dieLearned", fn := fun _ => fun
  | [d1, d2, d3] => { results := [.lit (.bool false)], args := [d1, d2, d3] }
  | _ => none }
def DieLearnedWrongFalsely : Prop := dieLearnedRow.holds Try.pinned (OpenSpec.ofChange dieLearnedWrong)

/-- 'acmelaw07.DieTurned': WHATEVER THE INPUT: true; the input reads as it did. -/
def dieTurnedSpec : ChangeSpec := { name := "dieTurned", fn := fun _ => fun
  | [d1, d2] => { results := [.lit (.bool true)], args := [d1, d2] }
  | _ => none }
def dieTurnedRow : OpenClaim := { program := "ytlbpfmnobapidaa", sum := "4d823e167b536ab76b140fb4b14d581f2bb95d11e21e2bbf4c7ed7159e1668a7", func := "acme/acmelaw07.DieTurned", spec := "dieTurned", unfollowed := true, recurses := true, apart := false }
def DieTurnedSaid : Prop := dieTurnedRow.holds Try.pinned (OpenSpec.ofChange dieTurnedSpec)

/-- ITS FALSE NEIGHBOUR: 'it returns false'. Refute it at one input. -/
def dieTurnedWrong : ChangeSpec := { name := "dieTurned", fn := fun _ => fun
  | [d1, d2] => { results := [.lit (.bool false)], args := [d1, d2] }
  | _ => none }
def DieTurnedWrongFalsely : Prop := dieTurnedRow.holds Try.pinned (OpenSpec.ofChange dieTurnedWrong)

/- THE SECOND FORM. 'bulk': how many values and letters a reading holds, each counted each time it is reached (what is shared counts as often as it is met; a slice's spare places count too). A statement '..UptoSaid' is the law's where the arguments, and the package variables that the reading takes, are together of bulk at most 1048576: NARROWER than '..Said'. Prove '..Said' where nothing that the law and all that it calls make is longer than what came in: it says more and counts as full. Else prove '..UptoSaid'. A law counts once. -/
mutual
def uptoBulk {H : Type} : DataW H → Nat
  | .lit (.string bytes) => bytes.length + 1
  | .lit _ => 1
  | .nil => 1
  | .ptr d => uptoBulk d + 1
  | .slice elems spare => uptoBulkAll elems + uptoBulkAll spare + 1
  | .agg parts => uptoBulkAll parts + 1
  | .iface _ d => uptoBulk d + 1
  | .map entries => uptoBulkEntries entries + 1
  | .held _ => 1
def uptoBulkAll {H : Type} : List (DataW H) → Nat
  | [] => 0
  | d :: r => uptoBulk d + uptoBulkAll r
def uptoBulkEntries {H : Type} : List (Lit × DataW H) → Nat
  | [] => 0
  | x :: r => uptoBulkEntry x + uptoBulkEntries r
def uptoBulkEntry {H : Type} : Lit × DataW H → Nat
  | (.string bytes, d) => bytes.length + uptoBulk d + 1
  | (_, d) => uptoBulk d + 1
 end
def uptoSmall : (H : Type) → List (DataW H) → Bool := fun _ ds => decide (uptoBulkAll ds ≤ 1048576)
def OpenSpec.upto (s : _root_.Go.ChangeSpec) : _root_.Go.OpenSpec := { _root_.Go.OpenSpec.ofChange s with cond := some uptoSmall }

/-- 'acmelaw07.DieTargets', WHERE WHAT IT READS IS OF BULK AT MOST 1048576: true; the input reads as it did. -/
def dieTargetsUptoRow : OpenClaim := { program := "ytlbpfmnobapidaa", sum := "4d823e167b536ab76b140fb4b14d581f2bb95d11e21e2bbf4c7ed7159e1668a7", func := "acme/acmelaw07.DieTargets", spec := "dieTargets", unfollowed := true, recurses := true, apart := false, narrowed := true }
def DieTargetsUptoSaid : Prop := dieTargetsUptoRow.holds Try.pinned (OpenSpec.upto dieTargetsSpec)

/-- 'acmelaw07.DiePlans', WHERE WHAT IT READS IS OF BULK AT MOST 1048576: true; the input reads as it did. -/
def diePlansUptoRow : OpenClaim := { program := "ytlbpfmnobapidaa", sum := "4d823e167b536ab76b140fb4b14d581f2bb95d11e21e2bbf4c7ed7159e1668a7", func := "acme/acmelaw07.DiePlans", spec := "diePlans", unfollowed := true, recurses := true, apart := false, narrowed := true }
def DiePlansUptoSaid : Prop := diePlansUptoRow.holds Try.pinned (OpenSpec.upto diePlansSpec)

/-- 'acmelaw07.DieMosts', WHERE WHAT IT READS IS OF BULK AT MOST 1048576: true; the input reads as it did. -/
def dieMostsUptoRow : OpenClaim := { program := "ytlbpfmnobapidaa", sum := "4d823e167b536ab76b140fb4b14d581f2bb95d11e21e2bbf4c7ed7159e1668a7", func := "acme/acmelaw07.DieMosts", spec := "dieMosts", unfollowed := true, recurses := true, apart := false, narrowed := true }
def DieMostsUptoSaid : Prop := dieMostsUptoRow.holds Try.pinned (OpenSpec.upto dieMostsSpec)

/-- 'acmelaw07.DieJudges', WHERE WHAT IT READS IS OF BULK AT MOST 1048576: true; the input reads as it did. -/
def dieJudgesUptoRow : OpenClaim := { program := "ytlbpfmnobapidaa", sum := "4d823e167b536ab76b140fb4b14d581f2bb95d11e21e2bbf4c7ed7159e1668a7", func := "acme/acmelaw07.DieJudges", spec := "dieJudges", unfollowed := true, recurses := true, apart := false, narrowed := true }
def DieJudgesUptoSaid : Prop := dieJudgesUptoRow.holds Try.pinned (OpenSpec.upto dieJudgesSpec)

/-- 'acmelaw07.DieLearns', WHERE WHAT IT READS IS OF BULK AT MOST 1048576: true; the input reads as it did. -/
def dieLearnsUptoRow : OpenClaim := { program := "ytlbpfmnobapidaa", sum := "4d823e167b536ab76b140fb4b14d581f2bb95d11e21e2bbf4c7ed7159e1668a7", func := "acme/acmelaw07.DieLearns", spec := "dieLearns", unfollowed := true, recurses := true, apart := false, narrowed := true }
def DieLearnsUptoSaid : Prop := dieLearnsUptoRow.holds Try.pinned (OpenSpec.upto dieLearnsSpec)

/-- 'acmelaw07.DieSure', WHERE WHAT IT READS IS OF BULK AT MOST 1048576: true; the input reads as it did. -/
def dieSureUptoRow : OpenClaim := { program := "ytlbpfmnobapidaa", sum := "4d823e167b536ab76b140fb4b14d581f2bb95d11e21e2bbf4c7ed7159e1668a7", func := "acme/acmelaw07.DieSure", spec := "dieSure", unfollowed := true, recurses := true, apart := false, narrowed := true }
def DieSureUptoSaid : Prop := dieSureUptoRow.holds Try.pinned (OpenSpec.upto dieSureSpec)

/-- 'acmelaw07.DieFewer', WHERE WHAT IT READS IS OF BULK AT MOST 1048576: true; the input reads as it did. -/
def dieFewerUptoRow : OpenClaim := { program := "ytlbpfmnobapidaa", sum := "4d823e167b536ab76b140fb4b14d581f2bb95d11e21e2bbf4c7ed7159e1668a7", func := "acme/acmelaw07.DieFewer", spec := "dieFewer", unfollowed := true, recurses := true, apart := false, narrowed := true }
def DieFewerUptoSaid : Prop := dieFewerUptoRow.holds Try.pinned (OpenSpec.upto dieFewerSpec)

/-- 'acmelaw07.DieMore', WHERE WHAT IT READS IS OF BULK AT MOST 1048576: true; the input reads as it did. -/
def dieMoreUptoRow : OpenClaim := { program := "ytlbpfmnobapidaa", sum := "4d823e167b536ab76b140fb4b14d581f2bb95d11e21e2bbf4c7ed7159e1668a7", func := "acme/acmelaw07.DieMore", spec := "dieMore", unfollowed := true, recurses := true, apart := false, narrowed := true }
def DieMoreUptoSaid : Prop := dieMoreUptoRow.holds Try.pinned (OpenSpec.upto dieMoreSpec)

/-- 'acmelaw07.DieLearned', WHERE WHAT IT READS IS OF BULK AT MOST 1048576: true; the input reads as it did. -/
def dieLearnedUptoRow : OpenClaim := { program := "ytlbpfmnobapidaa", sum := "4d823e167b536ab76b140fb4b14d581f2bb95d11e21e2bbf4c7ed7159e1668a7", func := "acme/acmelaw07.DieLearned", spec := "dieLearned", unfollowed := true, recurses := true, apart := false, narrowed := true }
def DieLearnedUptoSaid : Prop := dieLearnedUptoRow.holds Try.pinned (OpenSpec.upto dieLearnedSpec)

/-- 'acmelaw07.DieTurned', WHERE WHAT IT READS IS OF BULK AT MOST 1048576: true; the input reads as it did. -/
def dieTurnedUptoRow : OpenClaim := { program := "ytlbpfmnobapidaa", sum := "4d823e167b536ab76b140fb4b14d581f2bb95d11e21e2bbf4c7ed7159e1668a7", func := "acme/acmelaw07.DieTurned", spec := "dieTurned", unfollowed := true, recurses := true, apart := false, narrowed := true }
def DieTurnedUptoSaid : Prop := dieTurnedUptoRow.holds Try.pinned (OpenSpec.upto dieTurnedSpec)

end Rows
end Go.Proofs.Ytlbpfmnobapidaa
