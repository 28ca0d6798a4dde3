/-
  No cell of these rows narrows 'for every input' (looked for: loops, veiled, ifaces, maps, wideKeys, modest, calm, conditions, laid).
  DERIVED. THE GIVEN ROWS OF THIS SEAT. 8 by the template 'for every input the law returns true; each argument reads behind the call as it read before'; 0 by the template 'total and deterministic' (their statements: YtjdoeehmnfbepaaTotals.lean).
  GIVEN WITH THE SEED: the statements are not yours to turn. If you find one false, say at which input.
  Laid BY PROGRAM, IN A SANDBOX (cutbox-rows.mjs): the forced cells as the released guide's own fill.sh prints them over the translation f5c22e871fc16a8a… (all of the seat's roots in one cut). By AI agents, Wed Nov 11 2026. No macro, syntax, notation, axiom, sorry.
-/
import Derived.Test.YtjdoeehmnfbepaaChecked
import GoSem.Claim
import GoSem.ClaimJoined
import GoSem.ClaimMapViews
import Derived.JoinedTies
import Derived.KernelRfl
namespace Go.Proofs.Ytjdoeehmnfbepaa
/- THE CELL 'sum', in the pinned program and in every row, IS THE sha256 OF THE DUMP (.gsa) THAT YtjdoeehmnfbepaaProg.lean LOADS. Nothing in Lean hashes anything: it is a label: what it is worth is what the hold of that sum in a sandbox is worth. -/
noncomputable def Try.pinned : Pinned := { name := "ytjdoeehmnfbepaa", sum := "f5c22e871fc16a8a965a9161b64f39f35486ba2422828c26415fc9a1268269e5", checked := Try.checked }
namespace Rows
def none {H : Type} : Left H := { results := [], args := [] }

/-- 'capstanlaw04.NumRings': WHATEVER THE INPUT: true; the input reads as it did. -/
def numRingsSpec : ChangeSpec := { name := "numRings", fn := fun _ => fun
  | [d1, d2, d3] => { results := [.lit (.bool true)], args := [d1, d2, d3] }
  | _ => none }
def numRingsRow : OpenClaim := { program := "ytjdoeehmnfbepaa", sum := "f5c22e871fc16a8a965a9161b64f39f35486ba2422828c26415fc9a1268269e5", func := "capstan/capstanlaw04.NumRings", spec := "numRings", unfollowed := true, recurses := true, apart := false }
def NumRingsSaid : Prop := numRingsRow.holds Try.pinned (OpenSpec.ofChange numRingsSpec)

/-- ITS FALSE NEIGHBOUR: 'it returns false'. Refute it at one input. -/
def numRingsWrong : ChangeSpec := { name := "numRings", fn := fun _ => fun
  | [d1, d2, d3] => { results := [.lit (.bool false)], args := [d1, d2, d3] }
  | _ => none }
def NumRingsWrongFalsely : Prop := numRingsRow.holds Try.pinned (OpenSpec.ofChange numRingsWrong)

/-- 'capstanlaw04.NumDivides': WHATEVER THE INPUT: true; the input reads as it did. -/
def numDividesSpec : ChangeSpec := { name := "numDivides", fn := fun _ => fun
  | [d1, d2] => { results := [.lit (.bool true)], args := [d1, d2] }
  | _ => none }
def numDividesRow : OpenClaim := { program := "ytjdoeehmnfbepaa", sum := "f5c22e871fc16a8a965a9161b64f39f35486ba2422828c26415fc9a1268269e5", func := "capstan/capstanlaw04.NumDivides", spec := "numDivides", unfollowed := true, recurses := true, apart := false }
def NumDividesSaid : Prop := numDividesRow.holds Try.pinned (OpenSpec.ofChange numDividesSpec)

/-- ITS FALSE NEIGHBOUR: 'it returns false'. Refute it at one input. -/
def numDividesWrong : ChangeSpec := { name := "numDivides", fn := fun _ => fun
  | [d1, d2] => { results := [.lit (.bool false)], args := [d1, d2] }
  | _ => none }
def NumDividesWrongFalsely : Prop := numDividesRow.holds Try.pinned (OpenSpec.ofChange numDividesWrong)

/-- 'capstanlaw04.NumCompares': WHATEVER THE INPUT: true; the input reads as it did. -/
def numComparesSpec : ChangeSpec := { name := "numCompares", fn := fun _ => fun
  | [d1, d2] => { results := [.lit (.bool true)], args := [d1, d2] }
  | _ => none }
def numComparesRow : OpenClaim := { program := "ytjdoeehmnfbepaa", sum := "f5c22e871fc16a8a965a9161b64f39f35486ba2422828c26415fc9a1268269e5", func := "capstan/capstanlaw04.NumCompares", spec := "numCompares", unfollowed := true, recurses := true, apart := false }
def NumComparesSaid : Prop := numComparesRow.holds Try.pinned (OpenSpec.ofChange numComparesSpec)

/-- ITS FALSE NEIGHBOUR: 'it returns false'. Refute it at one input. -/
def numComparesWrong : ChangeSpec := { name := "numCompares", fn := fun _ => fun
  | [d1, d2] => { results := [.lit (.bool false)], args := [d1, d2] }
  | _ => none }
def NumComparesWrongFalsely : Prop := numComparesRow.holds Try.pinned (OpenSpec.ofChange numComparesWrong)

/-- 'capstanlaw04.NumSigns': WHATEVER THE INPUT: true; the input reads as it did. -/
def numSignsSpec : ChangeSpec := { name := "numSigns", fn := fun _ => fun
  | [d1, d2] => { results := [.lit (.bool true)], args := [d1, d2] }
  | _ => none }
def numSignsRow : OpenClaim := { program := "ytjdoeehmnfbepaa", sum := "f5c22e871fc16a8a965a9161b64f39f35486ba2422828c26415fc9a1268269e5", func := "capstan/capstanlaw04.NumSigns", spec := "numSigns", unfollowed := true, recurses := true, apart := false }
def NumSignsSaid : Prop := numSignsRow.holds Try.pinned (OpenSpec.ofChange numSignsSpec)

/-- ITS FALSE NEIGHBOUR: 'it returns false'. Refute it at one input. -/
def numSignsWrong : ChangeSpec := { name := "numSigns", fn := fun _ => fun
  | [d1, d2] => { results := [.lit (.bool false)], args := [d1, d2] }
  | _ => none }
def NumSignsWrongFalsely : Prop := numSignsRow.holds Try.pinned (OpenSpec.ofChange numSignsWrong)

/-- 'capstanlaw04.NumTwos': WHATEVER THE INPUT: true; the input reads as it did. -/
def numTwosSpec : ChangeSpec := { name := "numTwos", fn := fun _ => fun
  | [d1, d2, d3] => { results := [.lit (.bool true)], args := [d1, d2, d3] }
  | _ => none }
def numTwosRow : OpenClaim := { program := "ytjdoeehmnfbepaa", sum := "f5c22e871fc16a8a965a9161b64f39f35486ba2422828c26415fc9a1268269e5", func := "capstan/capstanlaw04.NumTwos", spec := "numTwos", unfollowed := true, recurses := true, apart := false }
def NumTwosSaid : Prop := numTwosRow.holds Try.pinned (OpenSpec.ofChange numTwosSpec)

/-- ITS FALSE NEIGHBOUR: 'it returns false'. Refute it at one input. -/
def numTwosWrong : ChangeSpec := { name := "numTwos", fn := fun _ => fun
  | [d1, d2, d3] => { results := [.lit (.bool false)], args := [d1, d2, d3] }
  | _ => none }
def NumTwosWrongFalsely : Prop := numTwosRow.holds Try.pinned (OpenSpec.ofChange numTwosWrong)

/-- 'capstanlaw04.NumOnes': WHATEVER THE INPUT: true; the input reads as it did. -/
def numOnesSpec : ChangeSpec := { name := "numOnes", fn := fun _ => fun
  | [d1, d2, d3] => { results := [.lit (.bool true)], args := [d1, d2, d3] }
  | _ => none }
def numOnesRow : OpenClaim := { program := "ytjdoeehmnfbepaa", sum := "f5c22e871fc16a8a965a9161b64f39f35486ba2422828c26415fc9a1268269e5", func := "capstan/capstanlaw04.NumOnes", spec := "numOnes", unfollowed := true, recurses := true, apart := false }
def NumOnesSaid : Prop := numOnesRow.holds Try.pinned (OpenSpec.ofChange numOnesSpec)

/-- ITS FALSE NEIGHBOUR: 'it returns false'. Refute it at one input. -/
def numOnesWrong : ChangeSpec := { name := "numOnes", fn := fun _ => fun
  | [d1, d2, d3] => { results := [.lit (.bool false)], args := [d1, d2, d3] }
  | _ => none }
def NumOnesWrongFalsely : Prop := numOnesRow.holds Try.pinned (OpenSpec.ofChange numOnesWrong)

/-- 'capstanlaw04.NumWidens': WHATEVER THE INPUT: true; the input reads as it did. -/
def numWidensSpec : ChangeSpec := { name := "numWidens", fn := fun _ => fun
  | [d] => { results := [.lit (.bool true)], args := [d] }
  | _ => none }
def numWidensRow : OpenClaim := { program := "ytjdoeehmnfbepaa", sum := "f5c22e871fc16a8a965a9161b64f39f35486ba2422828c26415fc9a1268269e5", func := "capstan/capstanlaw04.NumWidens", spec := "numWidens", unfollowed := true, recurses := true, apart := false }
def NumWidensSaid : Prop := numWidensRow.holds Try.pinned (OpenSpec.ofChange numWidensSpec)

/-- ITS FALSE NEIGHBOUR: 'it returns false'. Refute it at one input. -/
def numWidensWrong : ChangeSpec := { name := "numWidens", fn := fun _ => fun
  | [d] => { results := [.lit (.bool false)], args := [d] }
  | _ => none }
def NumWidensWrongFalsely : Prop := numWidensRow.holds Try.pinned (OpenSpec.ofChange numWidensWrong)

/-- 'capstanlaw04.NumFits': WHATEVER THE INPUT: true; the input reads as it did. -/
def numFitsSpec : ChangeSpec := { name := "numFits", fn := fun _ => fun
  | [d1, d2, d3] => { results := [.lit (.bool true)], args := [d1, d2, d3] }
  | _ => none }
def numFitsRow : OpenClaim := { program := "ytjdoeehmnfbepaa", sum := "f5c22e871fc16a8a965a9161b64f39f35486ba2422828c26415fc9a1268269e5", func := "capstan/capstanlaw04.NumFits", spec := "numFits", unfollowed := true, recurses := true, apart := false }
def NumFitsSaid : Prop := numFitsRow.holds Try.pinned (OpenSpec.ofChange numFitsSpec)

/-- ITS FALSE NEIGHBOUR: 'it returns false'. Refute it at one input. -/
def numFitsWrong : ChangeSpec := { name := "numFits", fn := fun _ => fun
  | [d1, d2, d3] => { results := [.lit (.bool false)], args := [d1, d2, d3] }
  | _ => none }
def NumFitsWrongFalsely : Prop := numFitsRow.holds Try.pinned (OpenSpec.ofChange numFitsWrong)

/- THE SECOND FORM. 'bulk': how many values and letters a reading holds, each counted each time it is reached (what is shared counts as often as it is met; a slice's spare places count too). A statement '..UptoSaid' is the law's where the arguments, and the package variables that the reading takes, are together of bulk at most 1048576: NARROWER than '..Said'. Prove '..Said' where nothing that the law and all that it calls make is longer than what came in: it says more and counts as full. Else prove '..UptoSaid'. A law counts once. -/
mutual
def uptoBulk {H : Type} : DataW H → Nat
  | .lit (.string bytes) => bytes.length + 1
  | .lit _ => 1
  | .nil => 1
  | .ptr d => uptoBulk d + 1
  | .slice elems spare => uptoBulkAll elems + uptoBulkAll spare + 1
  | .agg parts => uptoBulkAll parts + 1
  | .iface _ d => uptoBulk d + 1
  | .map entries => uptoBulkEntries entries + 1
  | .held _ => 1
def uptoBulkAll {H : Type} : List (DataW H) → Nat
  | [] => 0
  | d :: r => uptoBulk d + uptoBulkAll r
def uptoBulkEntries {H : Type} : List (Lit × DataW H) → Nat
  | [] => 0
  | x :: r => uptoBulkEntry x + uptoBulkEntries r
def uptoBulkEntry {H : Type} : Lit × DataW H → Nat
  | (.string bytes, d) => bytes.length + uptoBulk d + 1
  | (_, d) => uptoBulk d + 1
 end
def uptoSmall : (H : Type) → List (DataW H) → Bool := fun _ ds => decide (uptoBulkAll ds ≤ 1048576)
def OpenSpec.upto (s : _root_.Go.ChangeSpec) : _root_.Go.OpenSpec := { _root_.Go.OpenSpec.ofChange s with cond := some uptoSmall }

/-- 'capstanlaw04.NumRings', WHERE WHAT IT READS IS OF BULK AT MOST 1048576: true; the input reads as it did. -/
def numRingsUptoRow : OpenClaim := { program := "ytjdoeehmnfbepaa", sum := "f5c22e871fc16a8a965a9161b64f39f35486ba2422828c26415fc9a1268269e5", func := "capstan/capstanlaw04.NumRings", spec := "numRings", unfollowed := true, recurses := true, apart := false, narrowed := true }
def NumRingsUptoSaid : Prop := numRingsUptoRow.holds Try.pinned (OpenSpec.upto numRingsSpec)

/-- 'capstanlaw04.NumDivides', WHERE WHAT IT READS IS OF BULK AT MOST 1048576: true; the input reads as it did. -/
def numDividesUptoRow : OpenClaim := { program := "ytjdoeehmnfbepaa", sum := "f5c22e871fc16a8a965a9161b64f39f35486ba2422828c26415fc9a1268269e5", func := "capstan/capstanlaw04.NumDivides", spec := "numDivides", unfollowed := true, recurses := true, apart := false, narrowed := true }
def NumDividesUptoSaid : Prop := numDividesUptoRow.holds Try.pinned (OpenSpec.upto numDividesSpec)

/-- 'capstanlaw04.NumCompares', WHERE WHAT IT READS IS OF BULK AT MOST 1048576: true; the input reads as it did. -/
def numComparesUptoRow : OpenClaim := { program := "ytjdoeehmnfbepaa", sum := "f5c22e871fc16a8a965a9161b64f39f35486ba2422828c26415fc9a1268269e5", func := "capstan/capstanlaw04.NumCompares", spec := "numCompares", unfollowed := true, recurses := true, apart := false, narrowed := true }
def NumComparesUptoSaid : Prop := numComparesUptoRow.holds Try.pinned (OpenSpec.upto numComparesSpec)

/-- 'capstanlaw04.NumSigns', WHERE WHAT IT READS IS OF BULK AT MOST 1048576: true; the input reads as it did. -/
def numSignsUptoRow : OpenClaim := { program := "ytjdoeehmnfbepaa", sum := "f5c22e871fc16a8a965a9161b64f39f35486ba2422828c26415fc9a1268269e5", func := "capstan/capstanlaw04.NumSigns", spec := "numSigns", unfollowed := true, recurses := true, apart := false, narrowed := true }
def NumSignsUptoSaid : Prop := numSignsUptoRow.holds Try.pinned (OpenSpec.upto numSignsSpec)

/-- 'capstanlaw04.NumTwos', WHERE WHAT IT READS IS OF BULK AT MOST 1048576: true; the input reads as it did. -/
def numTwosUptoRow : OpenClaim := { program := "ytjdoeehmnfbepaa", sum := "f5c22e871fc16a8a965a9161b64f39f35486ba2422828c26415fc9a1268269e5", func := "capstan/capstanlaw04.NumTwos", spec := "numTwos", unfollowed := true, recurses := true, apart := false, narrowed := true }
def NumTwosUptoSaid : Prop := numTwosUptoRow.holds Try.pinned (OpenSpec.upto numTwosSpec)

/-- 'capstanlaw04.NumOnes', WHERE WHAT IT READS IS OF BULK AT MOST 1048576: true; the input reads as it did. -/
def numOnesUptoRow : OpenClaim := { program := "ytjdoeehmnfbepaa", sum := "f5c22e871fc16a8a965a9161b64f39f35486ba2422828c26415fc9a1268269e5", func := "capstan/capstanlaw04.NumOnes", spec := "numOnes", unfollowed := true, recurses := true, apart := false, narrowed := true }
def NumOnesUptoSaid : Prop := numOnesUptoRow.holds Try.pinned (OpenSpec.upto numOnesSpec)

/-- 'capstanlaw04.NumWidens', WHERE WHAT IT READS IS OF BULK AT MOST 1048576: true; the input reads as it did. -/
def numWidensUptoRow : OpenClaim := { program := "ytjdoeehmnfbepaa", sum := "f5c22e871fc16a8a965a9161b64f39f35486ba2422828c26415fc9a1268269e5", func := "capstan/capstanlaw04.NumWidens", spec := "numWidens", unfollowed := true, recurses := true, apart := false, narrowed := true }
def NumWidensUptoSaid : Prop := numWidensUptoRow.holds Try.pinned (OpenSpec.upto numWidensSpec)

/-- 'capstanlaw04.NumFits', WHERE WHAT IT READS IS OF BULK AT MOST 1048576: true; the input reads as it did. -/
def numFitsUptoRow : OpenClaim := { program := "ytjdoeehmnfbepaa", sum := "f5c22e871fc16a8a965a9161b64f39f35486ba2422828c26415fc9a1268269e5", func := "capstan/capstanlaw04.NumFits", spec := "numFits", unfollowed := true, recurses := true, apart := false, narrowed := true }
def NumFitsUptoSaid : Prop := numFitsUptoRow.holds Try.pinned (OpenSpec.upto numFitsSpec)

end Rows
end Go.Proofs.Ytjdoeehmnfbepaa
