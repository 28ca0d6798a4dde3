/-
  No cell of these rows narrows 'for every input' (looked for: loops, veiled, ifaces, maps, wideKeys, modest, calm, conditions, laid).
  DERIVED. THE GIVEN ROWS OF THIS SEAT. 6 by the template 'for every input the law returns true; each argument reads behind the call as it read before'; 0 by the template 'total and deterministic' (their statements: YtefflkmegodafaaDoorTotals.lean).
  GIVEN WITH THE SEED: the statements are not yours to turn. If you find one false, say at which input.
  Laid BY PROGRAM, IN A SANDBOX (cutbox-rows.mjs): the forced cells as the released guide's own fill.sh prints them over the translation a8ece8fe87deb1ab… (all of the seat's roots in one cut). By AI agents, Wed Nov 11 2026. No macro, syntax, notation, axiom, sorry.
-/
import Derived.Test.YtefflkmegodafaaDoorChecked
import GoSem.Claim
import GoSem.ClaimJoined
import GoSem.ClaimMapViews
import Derived.JoinedTies
import Derived.KernelRfl
namespace Go.Proofs.YtefflkmegodafaaDoor
/- THE CELL 'sum', in the pinned program and in every row, IS THE sha256 OF THE DUMP (.gsa) THAT YtefflkmegodafaaDoorProg.lean LOADS. Nothing in Lean hashes anything: it is a label: what it is worth is what the hold of that sum in a sandbox is worth. -/
noncomputable def Tryd.pinned : Pinned := { name := "ytefflkmegodafaadoor", sum := "a8ece8fe87deb1abee160af03f12d261f7373c1b9aa8b846e783ec16d2905e59", checked := Tryd.checked }
namespace Rows
def none {H : Type} : Left H := { results := [], args := [] }

/-- 'capstanlaw12.BlockSteps': WHATEVER THE INPUT: true; the input reads as it did. -/
def blockStepsSpec : ChangeSpec := { name := "blockSteps", fn := fun _ => fun
  | [d1, d2, d3] => { results := [.lit (.bool true)], args := [d1, d2, d3] }
  | _ => none }
def blockStepsRow : OpenClaim := { program := "ytefflkmegodafaadoor", sum := "a8ece8fe87deb1abee160af03f12d261f7373c1b9aa8b846e783ec16d2905e59", func := "capstan/capstanlaw12.BlockSteps", spec := "blockSteps", unfollowed := true, recurses := true, named := ["capstan/quad.circle"], apart := false }
def BlockStepsSaid : Prop := blockStepsRow.holds Tryd.pinned (OpenSpec.ofChange blockStepsSpec)

/-- ITS FALSE NEIGHBOUR: 'it returns false'. Refute it at one input. -/
def blockStepsWrong : ChangeSpec := { name := "blockSteps", fn := fun _ => fun
  | [d1, d2, d3] => { results := [.lit (.bool false)], args := [d1, d2, d3] }
  | _ => none }
def BlockStepsWrongFalsely : Prop := blockStepsRow.holds Tryd.pinned (OpenSpec.ofChange blockStepsWrong)

/-- 'capstanlaw12.BlockTimes': WHATEVER THE INPUT: true; the input reads as it did. -/
def blockTimesSpec : ChangeSpec := { name := "blockTimes", fn := fun _ => fun
  | [d1, d2, d3] => { results := [.lit (.bool true)], args := [d1, d2, d3] }
  | _ => none }
def blockTimesRow : OpenClaim := { program := "ytefflkmegodafaadoor", sum := "a8ece8fe87deb1abee160af03f12d261f7373c1b9aa8b846e783ec16d2905e59", func := "capstan/capstanlaw12.BlockTimes", spec := "blockTimes", unfollowed := true, recurses := true, named := ["capstan/quad.circle"], apart := false }
def BlockTimesSaid : Prop := blockTimesRow.holds Tryd.pinned (OpenSpec.ofChange blockTimesSpec)

/-- ITS FALSE NEIGHBOUR: 'it returns false'. Refute it at one input. -/
def blockTimesWrong : ChangeSpec := { name := "blockTimes", fn := fun _ => fun
  | [d1, d2, d3] => { results := [.lit (.bool false)], args := [d1, d2, d3] }
  | _ => none }
def BlockTimesWrongFalsely : Prop := blockTimesRow.holds Tryd.pinned (OpenSpec.ofChange blockTimesWrong)

/-- 'capstanlaw12.BlockEdges': WHATEVER THE INPUT: true; the input reads as it did. -/
def blockEdgesSpec : ChangeSpec := { name := "blockEdges", fn := fun _ => fun
  | [d1, d2] => { results := [.lit (.bool true)], args := [d1, d2] }
  | _ => none }
def blockEdgesRow : OpenClaim := { program := "ytefflkmegodafaadoor", sum := "a8ece8fe87deb1abee160af03f12d261f7373c1b9aa8b846e783ec16d2905e59", func := "capstan/capstanlaw12.BlockEdges", spec := "blockEdges", unfollowed := true, recurses := true, named := ["capstan/quad.circle"], apart := false }
def BlockEdgesSaid : Prop := blockEdgesRow.holds Tryd.pinned (OpenSpec.ofChange blockEdgesSpec)

/-- ITS FALSE NEIGHBOUR: 'it returns false'. Refute it at one input. -/
def blockEdgesWrong : ChangeSpec := { name := "blockEdges", fn := fun _ => fun
  | [d1, d2] => { results := [.lit (.bool false)], args := [d1, d2] }
  | _ => none }
def BlockEdgesWrongFalsely : Prop := blockEdgesRow.holds Tryd.pinned (OpenSpec.ofChange blockEdgesWrong)

/-- 'capstanlaw12.BlockKeeps': WHATEVER THE INPUT: true; the input reads as it did. -/
def blockKeepsSpec : ChangeSpec := { name := "blockKeeps", fn := fun _ => fun
  | [d1, d2] => { results := [.lit (.bool true)], args := [d1, d2] }
  | _ => none }
def blockKeepsRow : OpenClaim := { program := "ytefflkmegodafaadoor", sum := "a8ece8fe87deb1abee160af03f12d261f7373c1b9aa8b846e783ec16d2905e59", func := "capstan/capstanlaw12.BlockKeeps", spec := "blockKeeps", unfollowed := true, recurses := true, named := ["capstan/quad.circle"], apart := false }
def BlockKeepsSaid : Prop := blockKeepsRow.holds Tryd.pinned (OpenSpec.ofChange blockKeepsSpec)

/-- ITS FALSE NEIGHBOUR: 'it returns false'. Refute it at one input. -/
def blockKeepsWrong : ChangeSpec := { name := "blockKeeps", fn := fun _ => fun
  | [d1, d2] => { results := [.lit (.bool false)], args := [d1, d2] }
  | _ => none }
def BlockKeepsWrongFalsely : Prop := blockKeepsRow.holds Tryd.pinned (OpenSpec.ofChange blockKeepsWrong)

/-- 'capstanlaw12.BlockRuns': WHATEVER THE INPUT: true; the input reads as it did. -/
def blockRunsSpec : ChangeSpec := { name := "blockRuns", fn := fun _ => fun
  | [d1, d2, d3] => { results := [.lit (.bool true)], args := [d1, d2, d3] }
  | _ => none }
def blockRunsRow : OpenClaim := { program := "ytefflkmegodafaadoor", sum := "a8ece8fe87deb1abee160af03f12d261f7373c1b9aa8b846e783ec16d2905e59", func := "capstan/capstanlaw12.BlockRuns", spec := "blockRuns", unfollowed := true, recurses := true, named := ["capstan/quad.circle"], apart := false }
def BlockRunsSaid : Prop := blockRunsRow.holds Tryd.pinned (OpenSpec.ofChange blockRunsSpec)

/-- ITS FALSE NEIGHBOUR: 'it returns false'. Refute it at one input. -/
def blockRunsWrong : ChangeSpec := { name := "blockRuns", fn := fun _ => fun
  | [d1, d2, d3] => { results := [.lit (.bool false)], args := [d1, d2, d3] }
  | _ => none }
def BlockRunsWrongFalsely : Prop := blockRunsRow.holds Tryd.pinned (OpenSpec.ofChange blockRunsWrong)

/-- 'capstanlaw12.BlockTwice': WHATEVER THE INPUT: true; the input reads as it did. -/
def blockTwiceSpec : ChangeSpec := { name := "blockTwice", fn := fun _ => fun
  | [d1, d2, d3] => { results := [.lit (.bool true)], args := [d1, d2, d3] }
  | _ => none }
def blockTwiceRow : OpenClaim := { program := "ytefflkmegodafaadoor", sum := "a8ece8fe87deb1abee160af03f12d261f7373c1b9aa8b846e783ec16d2905e59", func := "capstan/capstanlaw12.BlockTwice", spec := "blockTwice", unfollowed := true, recurses := true, named := ["capstan/quad.circle"], apart := false }
def BlockTwiceSaid : Prop := blockTwiceRow.holds Tryd.pinned (OpenSpec.ofChange blockTwiceSpec)

/-- ITS FALSE NEIGHBOUR: 'it returns false'. Refute it at one input. -/
def blockTwiceWrong : ChangeSpec := { name := "blockTwice", fn := fun _ => fun
  | [d1, d2, d3] => { results := [.lit (.bool false)], args := [d1, d2, d3] }
  | _ => none }
def BlockTwiceWrongFalsely : Prop := blockTwiceRow.holds Tryd.pinned (OpenSpec.ofChange blockTwiceWrong)

/- THE SECOND FORM. 'bulk': how many values and letters a reading holds, each counted each time it is reached (what is shared counts as often as it is met; a slice's spare places count too). A statement '..UptoSaid' is the law's where the arguments, and the package variables that the reading takes, are together of bulk at most 1048576: NARROWER than '..Said'. Prove '..Said' where nothing that the law and all that it calls make is longer than what came in: it says more and counts as full. Else prove '..UptoSaid'. A law counts once. -/
mutual
def uptoBulk {H : Type} : DataW H → Nat
  | .lit (.string bytes) => bytes.length + 1
  | .lit _ => 1
  | .nil => 1
  | .ptr d => uptoBulk d + 1
  | .slice elems spare => uptoBulkAll elems + uptoBulkAll spare + 1
  | .agg parts => uptoBulkAll parts + 1
  | .iface _ d => uptoBulk d + 1
  | .map entries => uptoBulkEntries entries + 1
  | .held _ => 1
def uptoBulkAll {H : Type} : List (DataW H) → Nat
  | [] => 0
  | d :: r => uptoBulk d + uptoBulkAll r
def uptoBulkEntries {H : Type} : List (Lit × DataW H) → Nat
  | [] => 0
  | x :: r => uptoBulkEntry x + uptoBulkEntries r
def uptoBulkEntry {H : Type} : Lit × DataW H → Nat
  | (.string bytes, d) => bytes.length + uptoBulk d + 1
  | (_, d) => uptoBulk d + 1
 end
def uptoSmall : (H : Type) → List (DataW H) → Bool := fun _ ds => decide (uptoBulkAll ds ≤ 1048576)
def OpenSpec.upto (s : _root_.Go.ChangeSpec) : _root_.Go.OpenSpec := { _root_.Go.OpenSpec.ofChange s with cond := some uptoSmall }

/-- 'capstanlaw12.BlockSteps', WHERE WHAT IT READS IS OF BULK AT MOST 1048576: true; the input reads as it did. -/
def blockStepsUptoRow : OpenClaim := { program := "ytefflkmegodafaadoor", sum := "a8ece8fe87deb1abee160af03f12d261f7373c1b9aa8b846e783ec16d2905e59", func := "capstan/capstanlaw12.BlockSteps", spec := "blockSteps", unfollowed := true, recurses := true, named := ["capstan/quad.circle"], apart := false, narrowed := true }
def BlockStepsUptoSaid : Prop := blockStepsUptoRow.holds Tryd.pinned (OpenSpec.upto blockStepsSpec)

/-- 'capstanlaw12.BlockTimes', WHERE WHAT IT READS IS OF BULK AT MOST 1048576: true; the input reads as it did. -/
def blockTimesUptoRow : OpenClaim := { program := "ytefflkmegodafaadoor", sum := "a8ece8fe87deb1abee160af03f12d261f7373c1b9aa8b846e783ec16d2905e59", func := "capstan/capstanlaw12.BlockTimes", spec := "blockTimes", unfollowed := true, recurses := true, named := ["capstan/quad.circle"], apart := false, narrowed := true }
def BlockTimesUptoSaid : Prop := blockTimesUptoRow.holds Tryd.pinned (OpenSpec.upto blockTimesSpec)

/-- 'capstanlaw12.BlockEdges', WHERE WHAT IT READS IS OF BULK AT MOST 1048576: true; the input reads as it did. -/
def blockEdgesUptoRow : OpenClaim := { program := "ytefflkmegodafaadoor", sum := "a8ece8fe87deb1abee160af03f12d261f7373c1b9aa8b846e783ec16d2905e59", func := "capstan/capstanlaw12.BlockEdges", spec := "blockEdges", unfollowed := true, recurses := true, named := ["capstan/quad.circle"], apart := false, narrowed := true }
def BlockEdgesUptoSaid : Prop := blockEdgesUptoRow.holds Tryd.pinned (OpenSpec.upto blockEdgesSpec)

/-- 'capstanlaw12.BlockKeeps', WHERE WHAT IT READS IS OF BULK AT MOST 1048576: true; the input reads as it did. -/
def blockKeepsUptoRow : OpenClaim := { program := "ytefflkmegodafaadoor", sum := "a8ece8fe87deb1abee160af03f12d261f7373c1b9aa8b846e783ec16d2905e59", func := "capstan/capstanlaw12.BlockKeeps", spec := "blockKeeps", unfollowed := true, recurses := true, named := ["capstan/quad.circle"], apart := false, narrowed := true }
def BlockKeepsUptoSaid : Prop := blockKeepsUptoRow.holds Tryd.pinned (OpenSpec.upto blockKeepsSpec)

/-- 'capstanlaw12.BlockRuns', WHERE WHAT IT READS IS OF BULK AT MOST 1048576: true; the input reads as it did. -/
def blockRunsUptoRow : OpenClaim := { program := "ytefflkmegodafaadoor", sum := "a8ece8fe87deb1abee160af03f12d261f7373c1b9aa8b846e783ec16d2905e59", func := "capstan/capstanlaw12.BlockRuns", spec := "blockRuns", unfollowed := true, recurses := true, named := ["capstan/quad.circle"], apart := false, narrowed := true }
def BlockRunsUptoSaid : Prop := blockRunsUptoRow.holds Tryd.pinned (OpenSpec.upto blockRunsSpec)

/-- 'capstanlaw12.BlockTwice', WHERE WHAT IT READS IS OF BULK AT MOST 1048576: true; the input reads as it did. -/
def blockTwiceUptoRow : OpenClaim := { program := "ytefflkmegodafaadoor", sum := "a8ece8fe87deb1abee160af03f12d261f7373c1b9aa8b846e783ec16d2905e59", func := "capstan/capstanlaw12.BlockTwice", spec := "blockTwice", unfollowed := true, recurses := true, named := ["capstan/quad.circle"], apart := false, narrowed := true }
def BlockTwiceUptoSaid : Prop := blockTwiceUptoRow.holds Tryd.pinned (OpenSpec.upto blockTwiceSpec)

end Rows
end Go.Proofs.YtefflkmegodafaaDoor
