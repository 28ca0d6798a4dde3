/-
  No cell of these rows narrows 'for every input' (looked for: loops, veiled, ifaces, maps, wideKeys, modest, calm, conditions, laid).
  DERIVED. THE GIVEN ROWS OF THIS SEAT. 4 by the template 'for every input the law returns true; each argument reads behind the call as it read before'; 0 by the template 'total and deterministic' (their statements: YtdajedggennljaaTotals.lean).
  GIVEN WITH THE SEED: the statements are not yours to turn. If you find one false, say at which input.
  Laid BY PROGRAM, IN A SANDBOX (cutbox-rows.mjs): the forced cells as the released guide's own fill.sh prints them over the translation 97ac65a1355bae7c… (all of the seat's roots in one cut). By AI agents, Wed Nov 11 2026. No macro, syntax, notation, axiom, sorry.
-/
import Derived.Test.YtdajedggennljaaChecked
import GoSem.Claim
import GoSem.ClaimJoined
import GoSem.ClaimMapViews
import Derived.JoinedTies
import Derived.KernelRfl
namespace Go.Proofs.Ytdajedggennljaa
/- THE CELL 'sum', in the pinned program and in every row, IS THE sha256 OF THE DUMP (.gsa) THAT YtdajedggennljaaProg.lean LOADS. Nothing in Lean hashes anything: it is a label: what it is worth is what the hold of that sum in a sandbox is worth. -/
noncomputable def Try.pinned : Pinned := { name := "ytdajedggennljaa", sum := "97ac65a1355bae7c4db5c924e80d0afed51eaa64372e144f54b57882869e0a90", checked := Try.checked }
namespace Rows
def none {H : Type} : Left H := { results := [], args := [] }

/-- 'capstanlaw21.PlanTimes': WHATEVER THE INPUT: true; the input reads as it did. -/
def planTimesSpec : ChangeSpec := { name := "planTimes", fn := fun _ => fun
  | [d1, d2] => { results := [.lit (.bool true)], args := [d1, d2] }
  | _ => none }
def planTimesRow : OpenClaim := { program := "ytdajedggennljaa", sum := "97ac65a1355bae7c4db5c924e80d0afed51eaa64372e144f54b57882869e0a90", func := "capstan/capstanlaw21.PlanTimes", spec := "planTimes", unfollowed := true, recurses := true, apart := false }
def PlanTimesSaid : Prop := planTimesRow.holds Try.pinned (OpenSpec.ofChange planTimesSpec)

/-- ITS FALSE NEIGHBOUR: 'it returns false'. Refute it at one input. -/
def planTimesWrong : ChangeSpec := { name := "planTimes", fn := fun _ => fun
  | [d1, d2] => { results := [.lit (.bool false)], args := [d1, d2] }
  | _ => none }
def PlanTimesWrongFalsely : Prop := planTimesRow.holds Try.pinned (OpenSpec.ofChange planTimesWrong)

/-- 'capstanlaw21.PlanNext': WHATEVER THE INPUT: true; the input reads as it did. -/
def planNextSpec : ChangeSpec := { name := "planNext", fn := fun _ => fun
  | [d1, d2] => { results := [.lit (.bool true)], args := [d1, d2] }
  | _ => none }
def planNextRow : OpenClaim := { program := "ytdajedggennljaa", sum := "97ac65a1355bae7c4db5c924e80d0afed51eaa64372e144f54b57882869e0a90", func := "capstan/capstanlaw21.PlanNext", spec := "planNext", unfollowed := true, recurses := true, apart := false }
def PlanNextSaid : Prop := planNextRow.holds Try.pinned (OpenSpec.ofChange planNextSpec)

/-- ITS FALSE NEIGHBOUR: 'it returns false'. Refute it at one input. -/
def planNextWrong : ChangeSpec := { name := "planNext", fn := fun _ => fun
  | [d1, d2] => { results := [.lit (.bool false)], args := [d1, d2] }
  | _ => none }
def PlanNextWrongFalsely : Prop := planNextRow.holds Try.pinned (OpenSpec.ofChange planNextWrong)

/-- 'capstanlaw21.PlanAnswers': WHATEVER THE INPUT: true; the input reads as it did. -/
def planAnswersSpec : ChangeSpec := { name := "planAnswers", fn := fun _ => fun
  | [d1, d2] => { results := [.lit (.bool true)], args := [d1, d2] }
  | _ => none }
def planAnswersRow : OpenClaim := { program := "ytdajedggennljaa", sum := "97ac65a1355bae7c4db5c924e80d0afed51eaa64372e144f54b57882869e0a90", func := "capstan/capstanlaw21.PlanAnswers", spec := "planAnswers", unfollowed := true, recurses := true, apart := false }
def PlanAnswersSaid : Prop := planAnswersRow.holds Try.pinned (OpenSpec.ofChange planAnswersSpec)

/-- ITS FALSE NEIGHBOUR: 'it returns false'. Refute it at one input. -/
def planAnswersWrong : ChangeSpec := { name := "planAnswers", fn := fun _ => fun
  | [d1, d2] => { results := [.lit (.bool false)], args := [d1, d2] }
  | _ => none }
def PlanAnswersWrongFalsely : Prop := planAnswersRow.holds Try.pinned (OpenSpec.ofChange planAnswersWrong)

/-- 'capstanlaw21.PlanWhole': WHATEVER THE INPUT: true; the input reads as it did. -/
def planWholeSpec : ChangeSpec := { name := "planWhole", fn := fun _ => fun
  | [d1, d2, d3] => { results := [.lit (.bool true)], args := [d1, d2, d3] }
  | _ => none }
def planWholeRow : OpenClaim := { program := "ytdajedggennljaa", sum := "97ac65a1355bae7c4db5c924e80d0afed51eaa64372e144f54b57882869e0a90", func := "capstan/capstanlaw21.PlanWhole", spec := "planWhole", unfollowed := true, recurses := true, apart := false }
def PlanWholeSaid : Prop := planWholeRow.holds Try.pinned (OpenSpec.ofChange planWholeSpec)

/-- ITS FALSE NEIGHBOUR: 'it returns false'. Refute it at one input. -/
def planWholeWrong : ChangeSpec := { name := "planWhole", fn := fun _ => fun
  | [d1, d2, d3] => { results := [.lit (.bool false)], args := [d1, d2, d3] }
  | _ => none }
def PlanWholeWrongFalsely : Prop := planWholeRow.holds Try.pinned (OpenSpec.ofChange planWholeWrong)

/- THE SECOND FORM. 'bulk': how many values and letters a reading holds, each counted each time it is reached (what is shared counts as often as it is met; a slice's spare places count too). A statement '..UptoSaid' is the law's where the arguments, and the package variables that the reading takes, are together of bulk at most 1048576: NARROWER than '..Said'. Prove '..Said' where nothing that the law and all that it calls make is longer than what came in: it says more and counts as full. Else prove '..UptoSaid'. A law counts once. -/
mutual
def uptoBulk {H : Type} : DataW H → Nat
  | .lit (.string bytes) => bytes.length + 1
  | .lit _ => 1
  | .nil => 1
  | .ptr d => uptoBulk d + 1
  | .slice elems spare => uptoBulkAll elems + uptoBulkAll spare + 1
  | .agg parts => uptoBulkAll parts + 1
  | .iface _ d => uptoBulk d + 1
  | .map entries => uptoBulkEntries entries + 1
  | .held _ => 1
def uptoBulkAll {H : Type} : List (DataW H) → Nat
  | [] => 0
  | d :: r => uptoBulk d + uptoBulkAll r
def uptoBulkEntries {H : Type} : List (Lit × DataW H) → Nat
  | [] => 0
  | x :: r => uptoBulkEntry x + uptoBulkEntries r
def uptoBulkEntry {H : Type} : Lit × DataW H → Nat
  | (.string bytes, d) => bytes.length + uptoBulk d + 1
  | (_, d) => uptoBulk d + 1
 end
def uptoSmall : (H : Type) → List (DataW H) → Bool := fun _ ds => decide (uptoBulkAll ds ≤ 1048576)
def OpenSpec.upto (s : _root_.Go.ChangeSpec) : _root_.Go.OpenSpec := { _root_.Go.OpenSpec.ofChange s with cond := some uptoSmall }

/-- 'capstanlaw21.PlanTimes', WHERE WHAT IT READS IS OF BULK AT MOST 1048576: true; the input reads as it did. -/
def planTimesUptoRow : OpenClaim := { program := "ytdajedggennljaa", sum := "97ac65a1355bae7c4db5c924e80d0afed51eaa64372e144f54b57882869e0a90", func := "capstan/capstanlaw21.PlanTimes", spec := "planTimes", unfollowed := true, recurses := true, apart := false, narrowed := true }
def PlanTimesUptoSaid : Prop := planTimesUptoRow.holds Try.pinned (OpenSpec.upto planTimesSpec)

/-- 'capstanlaw21.PlanNext', WHERE WHAT IT READS IS OF BULK AT MOST 1048576: true; the input reads as it did. -/
def planNextUptoRow : OpenClaim := { program := "ytdajedggennljaa", sum := "97ac65a1355bae7c4db5c924e80d0afed51eaa64372e144f54b57882869e0a90", func := "capstan/capstanlaw21.PlanNext", spec := "planNext", unfollowed := true, recurses := true, apart := false, narrowed := true }
def PlanNextUptoSaid : Prop := planNextUptoRow.holds Try.pinned (OpenSpec.upto planNextSpec)

/-- 'capstanlaw21.PlanAnswers', WHERE WHAT IT READS IS OF BULK AT MOST 1048576: true; the input reads as it did. -/
def planAnswersUptoRow : OpenClaim := { program := "ytdajedggennljaa", sum := "97ac65a1355bae7c4db5c924e80d0afed51eaa64372e144f54b57882869e0a90", func := "capstan/capstanlaw21.PlanAnswers", spec := "planAnswers", unfollowed := true, recurses := true, apart := false, narrowed := true }
def PlanAnswersUptoSaid : Prop := planAnswersUptoRow.holds Try.pinned (OpenSpec.upto planAnswersSpec)

/-- 'capstanlaw21.PlanWhole', WHERE WHAT IT READS IS OF BULK AT MOST 1048576: true; the input reads as it did. -/
def planWholeUptoRow : OpenClaim := { program := "ytdajedggennljaa", sum := "97ac65a1355bae7c4db5c924e80d0afed51eaa64372e144f54b57882869e0a90", func := "capstan/capstanlaw21.PlanWhole", spec := "planWhole", unfollowed := true, recurses := true, apart := false, narrowed := true }
def PlanWholeUptoSaid : Prop := planWholeUptoRow.holds Try.pinned (OpenSpec.upto planWholeSpec)

end Rows
end Go.Proofs.Ytdajedggennljaa
