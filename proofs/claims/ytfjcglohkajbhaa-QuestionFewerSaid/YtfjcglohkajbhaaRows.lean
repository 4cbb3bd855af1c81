/-
  No cell of these rows narrows 'for every input' (looked for: loops, veiled, ifaces, maps, wideKeys, modest, calm, conditions, laid).
  DERIVED. THE GIVEN ROWS OF THIS SEAT. 6 by the template 'for every input the law returns true; each argument reads behind the call as it read before'; 0 by the template 'total and deterministic' (their statements: YtfjcglohkajbhaaTotals.lean).
  GIVEN WITH THE SEED: the statements are not yours to turn. If you find one false, say at which input.
  Laid BY PROGRAM, IN A SANDBOX (cutbox-rows.mjs): the forced cells as the released guide's own fill.sh prints them over the translation 89dcf66348487e7a… (all of the seat's roots in one cut). By AI agents, Wed Nov 11 2026. No macro, syntax, notation, axiom, sorry.
-/
import Derived.Test.YtfjcglohkajbhaaChecked
import GoSem.Claim
import GoSem.ClaimJoined
import GoSem.ClaimMapViews
import Derived.JoinedTies
import Derived.KernelRfl
namespace Go.Proofs.Ytfjcglohkajbhaa
/- THE CELL 'sum', in the pinned program and in every row, IS THE sha256 OF THE DUMP (.gsa) THAT YtfjcglohkajbhaaProg.lean LOADS. Nothing in Lean hashes anything: it is a label: what it is worth is what the hold of that sum in a sandbox is worth. -/
noncomputable def Try.pinned : Pinned := { name := "ytfjcglohkajbhaa", sum := "89dcf66348487e7aeb61861552d51e0de37b36fa021675b0f7fcb7d1d3384d7a", checked := Try.checked }
namespace Rows
def none {H : Type} : Left H := { results := [], args := [] }

/-- 'sherdlaw19.QuestionBest': WHATEVER THE INPUT: true; the input reads as it did. -/
def questionBestSpec : ChangeSpec := { name := "questionBest", fn := fun _ => fun
  | [d1, d2, d3, d4] => { results := [.lit (.bool true)], args := [d1, d2, d3, d4] }
  | _ => none }
def questionBestRow : OpenClaim := { program := "ytfjcglohkajbhaa", sum := "89dcf66348487e7aeb61861552d51e0de37b36fa021675b0f7fcb7d1d3384d7a", func := "sherd/sherdlaw19.QuestionBest", spec := "questionBest", unfollowed := true, recurses := true, apart := false }
def QuestionBestSaid : Prop := questionBestRow.holds Try.pinned (OpenSpec.ofChange questionBestSpec)

/-- ITS FALSE NEIGHBOUR: 'it returns false'. Refute it at one input. -/
def questionBestWrong : ChangeSpec := { name := "questionBest", fn := fun _ => fun
  | [d1, d2, d3, d4] => { results := [.lit (.bool false)], args := [d1, d2, d3, d4] }
  | _ => none }
def QuestionBestWrongFalsely : Prop := questionBestRow.holds Try.pinned (OpenSpec.ofChange questionBestWrong)

/-- 'sherdlaw19.QuestionChecks': WHATEVER THE INPUT: true; the input reads as it did. -/
def questionChecksSpec : ChangeSpec := { name := "questionChecks", fn := fun _ => fun
  | [d1, d2, d3, d4, d5] => { results := [.lit (.bool true)], args := [d1, d2, d3, d4, d5] }
  | _ => none }
def questionChecksRow : OpenClaim := { program := "ytfjcglohkajbhaa", sum := "89dcf66348487e7aeb61861552d51e0de37b36fa021675b0f7fcb7d1d3384d7a", func := "sherd/sherdlaw19.QuestionChecks", spec := "questionChecks", unfollowed := true, recurses := true, apart := false }
def QuestionChecksSaid : Prop := questionChecksRow.holds Try.pinned (OpenSpec.ofChange questionChecksSpec)

/-- ITS FALSE NEIGHBOUR: 'it returns false'. Refute it at one input. -/
def questionChecksWrong : ChangeSpec := { name := "questionChecks", fn := fun _ => fun
  | [d1, d2, d3, d4, d5] => { results := [.lit (.bool false)], args := [d1, d2, d3, d4, d5] }
  | _ => none }
def QuestionChecksWrongFalsely : Prop := questionChecksRow.holds Try.pinned (OpenSpec.ofChange questionChecksWrong)

/-- 'sherdlaw19.QuestionOdd': WHATEVER THE INPUT: true; the input reads as it did. -/
def questionOddSpec : ChangeSpec := { name := "questionOdd", fn := fun _ => fun
  | [d1, d2, d3, d4] => { results := [.lit (.bool true)], args := [d1, d2, d3, d4] }
  | _ => none }
def questionOddRow : OpenClaim := { program := "ytfjcglohkajbhaa", sum := "89dcf66348487e7aeb61861552d51e0de37b36fa021675b0f7fcb7d1d3384d7a", func := "sherd/sherdlaw19.QuestionOdd", spec := "questionOdd", unfollowed := true, recurses := true, apart := false }
def QuestionOddSaid : Prop := questionOddRow.holds Try.pinned (OpenSpec.ofChange questionOddSpec)

/-- ITS FALSE NEIGHBOUR: 'it returns false'. Refute it at one input. -/
def questionOddWrong : ChangeSpec := { name := "questionOdd", fn := fun _ => fun
  | [d1, d2, d3, d4] => { results := [.lit (.bool false)], args := [d1, d2, d3, d4] }
  | _ => none }
def QuestionOddWrongFalsely : Prop := questionOddRow.holds Try.pinned (OpenSpec.ofChange questionOddWrong)

/-- 'sherdlaw19.QuestionLeast': WHATEVER THE INPUT: true; the input reads as it did. -/
def questionLeastSpec : ChangeSpec := { name := "questionLeast", fn := fun _ => fun
  | [d1, d2] => { results := [.lit (.bool true)], args := [d1, d2] }
  | _ => none }
def questionLeastRow : OpenClaim := { program := "ytfjcglohkajbhaa", sum := "89dcf66348487e7aeb61861552d51e0de37b36fa021675b0f7fcb7d1d3384d7a", func := "sherd/sherdlaw19.QuestionLeast", spec := "questionLeast", unfollowed := true, recurses := true, apart := false }
def QuestionLeastSaid : Prop := questionLeastRow.holds Try.pinned (OpenSpec.ofChange questionLeastSpec)

/-- ITS FALSE NEIGHBOUR: 'it returns false'. Refute it at one input. -/
def questionLeastWrong : ChangeSpec := { name := "questionLeast", fn := fun _ => fun
  | [d1, d2] => { results := [.lit (.bool false)], args := [d1, d2] }
  | _ => none }
def QuestionLeastWrongFalsely : Prop := questionLeastRow.holds Try.pinned (OpenSpec.ofChange questionLeastWrong)

/-- 'sherdlaw19.QuestionFewer': WHATEVER THE INPUT: true; the input reads as it did. -/
def questionFewerSpec : ChangeSpec := { name := "questionFewer", fn := fun _ => fun
  | [d1, d2, d3] => { results := [.lit (.bool true)], args := [d1, d2, d3] }
  | _ => none }
def questionFewerRow : OpenClaim := { program := "ytfjcglohkajbhaa", sum := "89dcf66348487e7aeb61861552d51e0de37b36fa021675b0f7fcb7d1d3384d7a", func := "sherd/sherdlaw19.QuestionFewer", spec := "questionFewer", unfollowed := true, recurses := true, apart := false }
def QuestionFewerSaid : Prop := questionFewerRow.holds Try.pinned (OpenSpec.ofChange questionFewerSpec)

/-- ITS FALSE NEIGHBOUR: 'it returns false'. Refute it at one input. -/
def questionFewerWrong : ChangeSpec := { name := "questionFewer", fn := fun _ => fun
  | [d1, d2, d3] => { results := [.lit (.bool false)], args := [d1, d2, d3] }
  | _ => none }
def QuestionFewerWrongFalsely : Prop := questionFewerRow.holds Try.pinned (OpenSpec.ofChange questionFewerWrong)

/-- 'sherdlaw19.QuestionCoded': WHATEVER THE INPUT: true; the input reads as it did. -/
def questionCodedSpec : ChangeSpec := { name := "questionCoded", fn := fun _ => fun
  | [d1, d2] => { results := [.lit (.bool true)], args := [d1, d2] }
  | _ => none }
def questionCodedRow : OpenClaim := { program := "ytfjcglohkajbhaa", sum := "89dcf66348487e7aeb61861552d51e0de37b36fa021675b0f7fcb7d1d3384d7a", func := "sherd/sherdlaw19.QuestionCoded", spec := "questionCoded", unfollowed := true, recurses := true, apart := false }
def QuestionCodedSaid : Prop := questionCodedRow.holds Try.pinned (OpenSpec.ofChange questionCodedSpec)

/-- ITS FALSE NEIGHBOUR: 'it returns false'. Refute it at one input. -/
def questionCodedWrong : ChangeSpec := { name := "questionCoded", fn := fun _ => fun
  | [d1, d2] => { results := [.lit (.bool false)], args := [d1, d2] }
  | _ => none }
def QuestionCodedWrongFalsely : Prop := questionCodedRow.holds Try.pinned (OpenSpec.ofChange questionCodedWrong)

/- THE SECOND FORM. 'bulk': how many values and letters a reading holds, each counted each time it is reached (what is shared counts as often as it is met; a slice's spare places count too). A statement '..UptoSaid' is the law's where the arguments, and the package variables that the reading takes, are together of bulk at most 1048576: NARROWER than '..Said'. Prove '..Said' where nothing that the law and all that it calls make is longer than what came in: it says more and counts as full. Else prove '..UptoSaid'. A law counts once. -/
mutual
def uptoBulk {H : Type} : DataW H → Nat
  | .lit (.string bytes) => bytes.length + 1
  | .lit _ => 1
  | .nil => 1
  | .ptr d => uptoBulk d + 1
  | .slice elems spare => uptoBulkAll elems + uptoBulkAll spare + 1
  | .agg parts => uptoBulkAll parts + 1
  | .iface _ d => uptoBulk d + 1
  | .map entries => uptoBulkEntries entries + 1
  | .held _ => 1
def uptoBulkAll {H : Type} : List (DataW H) → Nat
  | [] => 0
  | d :: r => uptoBulk d + uptoBulkAll r
def uptoBulkEntries {H : Type} : List (Lit × DataW H) → Nat
  | [] => 0
  | x :: r => uptoBulkEntry x + uptoBulkEntries r
def uptoBulkEntry {H : Type} : Lit × DataW H → Nat
  | (.string bytes, d) => bytes.length + uptoBulk d + 1
  | (_, d) => uptoBulk d + 1
 end
def uptoSmall : (H : Type) → List (DataW H) → Bool := fun _ ds => decide (uptoBulkAll ds ≤ 1048576)
def OpenSpec.upto (s : _root_.Go.ChangeSpec) : _root_.Go.OpenSpec := { _root_.Go.OpenSpec.ofChange s with cond := some uptoSmall }

/-- 'sherdlaw19.QuestionBest', WHERE WHAT IT READS IS OF BULK AT MOST 1048576: true; the input reads as it did. -/
def questionBestUptoRow : OpenClaim := { program := "ytfjcglohkajbhaa", sum := "89dcf66348487e7aeb61861552d51e0de37b36fa021675b0f7fcb7d1d3384d7a", func := "sherd/sherdlaw19.QuestionBest", spec := "questionBest", unfollowed := true, recurses := true, apart := false, narrowed := true }
def QuestionBestUptoSaid : Prop := questionBestUptoRow.holds Try.pinned (OpenSpec.upto questionBestSpec)

/-- 'sherdlaw19.QuestionChecks', WHERE WHAT IT READS IS OF BULK AT MOST 1048576: true; the input reads as it did. -/
def questionChecksUptoRow : OpenClaim := { program := "ytfjcglohkajbhaa", sum := "89dcf66348487e7aeb61861552d51e0de37b36fa021675b0f7fcb7d1d3384d7a", func := "sherd/sherdlaw19.QuestionChecks", spec := "questionChecks", unfollowed := true, recurses := true, apart := false, narrowed := true }
def QuestionChecksUptoSaid : Prop := questionChecksUptoRow.holds Try.pinned (OpenSpec.upto questionChecksSpec)

/-- 'sherdlaw19.QuestionOdd', WHERE WHAT IT READS IS OF BULK AT MOST 1048576: true; the input reads as it did. -/
def questionOddUptoRow : OpenClaim := { program := "ytfjcglohkajbhaa", sum := "89dcf66348487e7aeb61861552d51e0de37b36fa021675b0f7fcb7d1d3384d7a", func := "sherd/sherdlaw19.QuestionOdd", spec := "questionOdd", unfollowed := true, recurses := true, apart := false, narrowed := true }
def QuestionOddUptoSaid : Prop := questionOddUptoRow.holds Try.pinned (OpenSpec.upto questionOddSpec)

/-- 'sherdlaw19.QuestionLeast', WHERE WHAT IT READS IS OF BULK AT MOST 1048576: true; the input reads as it did. -/
def questionLeastUptoRow : OpenClaim := { program := "ytfjcglohkajbhaa", sum := "89dcf66348487e7aeb61861552d51e0de37b36fa021675b0f7fcb7d1d3384d7a", func := "sherd/sherdlaw19.QuestionLeast", spec := "questionLeast", unfollowed := true, recurses := true, apart := false, narrowed := true }
def QuestionLeastUptoSaid : Prop := questionLeastUptoRow.holds Try.pinned (OpenSpec.upto questionLeastSpec)

/-- 'sherdlaw19.QuestionFewer', WHERE WHAT IT READS IS OF BULK AT MOST 1048576: true; the input reads as it did. -/
def questionFewerUptoRow : OpenClaim := { program := "ytfjcglohkajbhaa", sum := "89dcf66348487e7aeb61861552d51e0de37b36fa021675b0f7fcb7d1d3384d7a", func := "sherd/sherdlaw19.QuestionFewer", spec := "questionFewer", unfollowed := true, recurses := true, apart := false, narrowed := true }
def QuestionFewerUptoSaid : Prop := questionFewerUptoRow.holds Try.pinned (OpenSpec.upto questionFewerSpec)

/-- 'sherdlaw19.QuestionCoded', WHERE WHAT IT READS IS OF BULK AT MOST 1048576: true; the input reads as it did. -/
def questionCodedUptoRow : OpenClaim := { program := "ytfjcglohkajbhaa", sum := "89dcf66348487e7aeb61861552d51e0de37b36fa021675b0f7fcb7d1d3384d7a", func := "sherd/sherdlaw19.QuestionCoded", spec := "questionCoded", unfollowed := true, recurses := true, apart := false, narrowed := true }
def QuestionCodedUptoSaid : Prop := questionCodedUptoRow.holds Try.pinned (OpenSpec.upto questionCodedSpec)

end Rows
end Go.Proofs.Ytfjcglohkajbhaa
