/-
  No cell of these rows narrows 'for every input' (looked for: loops, veiled, ifaces, maps, wideKeys, modest, calm, conditions, laid).
  DERIVED. THE GIVEN ROWS OF THIS SEAT. 6 by the template 'for every input the law returns true; each argument reads behind the call as it read before'; 0 by the template 'total and deterministic' (their statements: YtlhlhpgcjjhjkaaTotals.lean).
  GIVEN WITH THE SEED: the statements are not yours to turn. If you find one false, say at which input.
  Laid BY PROGRAM, IN A SANDBOX (cutbox-rows.mjs): the forced cells as the released guide's own fill.sh prints them over the translation e0bde41ce8ef130a… (all of the seat's roots in one cut). By AI agents, Wed Nov 11 2026. No macro, syntax, notation, axiom, sorry.
-/
import Derived.Test.YtlhlhpgcjjhjkaaChecked
import GoSem.Claim
import GoSem.ClaimJoined
import GoSem.ClaimMapViews
import Derived.JoinedTies
import Derived.KernelRfl
namespace Go.Proofs.Ytlhlhpgcjjhjkaa
/- THE CELL 'sum', in the pinned program and in every row, IS THE sha256 OF THE DUMP (.gsa) THAT YtlhlhpgcjjhjkaaProg.lean LOADS. Nothing in Lean hashes anything: it is a label: what it is worth is what the hold of that sum in a sandbox is worth. -/
noncomputable def Try.pinned : Pinned := { name := "ytlhlhpgcjjhjkaa", sum := "e0bde41ce8ef130abf367b3fb79620d8d14ac38ce382ea8c5a078af9da2483e8", checked := Try.checked }
namespace Rows
def none {H : Type} : Left H := { results := [], args := [] }

/-- 'sherdlaw29.GameSolve': WHATEVER THE INPUT: true; the input reads as it did. -/
def gameSolveSpec : ChangeSpec := { name := "gameSolve", fn := fun _ => fun
  | [d1, d2, d3, d4] => { results := [.lit (.bool true)], args := [d1, d2, d3, d4] }
  | _ => none }
def gameSolveRow : OpenClaim := { program := "ytlhlhpgcjjhjkaa", sum := "e0bde41ce8ef130abf367b3fb79620d8d14ac38ce382ea8c5a078af9da2483e8", func := "sherd/sherdlaw29.GameSolve", spec := "gameSolve", unfollowed := true, recurses := true, apart := false }
def GameSolveSaid : Prop := gameSolveRow.holds Try.pinned (OpenSpec.ofChange gameSolveSpec)

/-- ITS FALSE NEIGHBOUR: 'it returns false'. Refute it at one input. -/
def gameSolveWrong : ChangeSpec := { name := "gameSolve", fn := fun _ => fun
  | [d1, d2, d3, d4] => { results := [.lit (.bool false)], args := [d1, d2, d3, d4] }
  | _ => none }
def GameSolveWrongFalsely : Prop := gameSolveRow.holds Try.pinned (OpenSpec.ofChange gameSolveWrong)

/-- 'sherdlaw29.GameChecks': WHATEVER THE INPUT: true; the input reads as it did. -/
def gameChecksSpec : ChangeSpec := { name := "gameChecks", fn := fun _ => fun
  | [d1, d2, d3, d4, d5, d6] => { results := [.lit (.bool true)], args := [d1, d2, d3, d4, d5, d6] }
  | _ => none }
def gameChecksRow : OpenClaim := { program := "ytlhlhpgcjjhjkaa", sum := "e0bde41ce8ef130abf367b3fb79620d8d14ac38ce382ea8c5a078af9da2483e8", func := "sherd/sherdlaw29.GameChecks", spec := "gameChecks", unfollowed := true, recurses := true, apart := false }
def GameChecksSaid : Prop := gameChecksRow.holds Try.pinned (OpenSpec.ofChange gameChecksSpec)

/-- ITS FALSE NEIGHBOUR: 'it returns false'. Refute it at one input. -/
def gameChecksWrong : ChangeSpec := { name := "gameChecks", fn := fun _ => fun
  | [d1, d2, d3, d4, d5, d6] => { results := [.lit (.bool false)], args := [d1, d2, d3, d4, d5, d6] }
  | _ => none }
def GameChecksWrongFalsely : Prop := gameChecksRow.holds Try.pinned (OpenSpec.ofChange gameChecksWrong)

/-- 'sherdlaw29.GamePlay': WHATEVER THE INPUT: true; the input reads as it did. -/
def gamePlaySpec : ChangeSpec := { name := "gamePlay", fn := fun _ => fun
  | [d1, d2, d3, d4] => { results := [.lit (.bool true)], args := [d1, d2, d3, d4] }
  | _ => none }
def gamePlayRow : OpenClaim := { program := "ytlhlhpgcjjhjkaa", sum := "e0bde41ce8ef130abf367b3fb79620d8d14ac38ce382ea8c5a078af9da2483e8", func := "sherd/sherdlaw29.GamePlay", spec := "gamePlay", unfollowed := true, recurses := true, apart := false }
def GamePlaySaid : Prop := gamePlayRow.holds Try.pinned (OpenSpec.ofChange gamePlaySpec)

/-- ITS FALSE NEIGHBOUR: 'it returns false'. Refute it at one input. -/
def gamePlayWrong : ChangeSpec := { name := "gamePlay", fn := fun _ => fun
  | [d1, d2, d3, d4] => { results := [.lit (.bool false)], args := [d1, d2, d3, d4] }
  | _ => none }
def GamePlayWrongFalsely : Prop := gamePlayRow.holds Try.pinned (OpenSpec.ofChange gamePlayWrong)

/-- 'sherdlaw29.GameDetermined': WHATEVER THE INPUT: true; the input reads as it did. -/
def gameDeterminedSpec : ChangeSpec := { name := "gameDetermined", fn := fun _ => fun
  | [d1, d2, d3, d4] => { results := [.lit (.bool true)], args := [d1, d2, d3, d4] }
  | _ => none }
def gameDeterminedRow : OpenClaim := { program := "ytlhlhpgcjjhjkaa", sum := "e0bde41ce8ef130abf367b3fb79620d8d14ac38ce382ea8c5a078af9da2483e8", func := "sherd/sherdlaw29.GameDetermined", spec := "gameDetermined", unfollowed := true, recurses := true, apart := false }
def GameDeterminedSaid : Prop := gameDeterminedRow.holds Try.pinned (OpenSpec.ofChange gameDeterminedSpec)

/-- ITS FALSE NEIGHBOUR: 'it returns false'. Refute it at one input. -/
def gameDeterminedWrong : ChangeSpec := { name := "gameDetermined", fn := fun _ => fun
  | [d1, d2, d3, d4] => { results := [.lit (.bool false)], args := [d1, d2, d3, d4] }
  | _ => none }
def GameDeterminedWrongFalsely : Prop := gameDeterminedRow.holds Try.pinned (OpenSpec.ofChange gameDeterminedWrong)

/-- 'sherdlaw29.GameWon': WHATEVER THE INPUT: true; the input reads as it did. -/
def gameWonSpec : ChangeSpec := { name := "gameWon", fn := fun _ => fun
  | [d1, d2, d3, d4, d5, d6] => { results := [.lit (.bool true)], args := [d1, d2, d3, d4, d5, d6] }
  | _ => none }
def gameWonRow : OpenClaim := { program := "ytlhlhpgcjjhjkaa", sum := "e0bde41ce8ef130abf367b3fb79620d8d14ac38ce382ea8c5a078af9da2483e8", func := "sherd/sherdlaw29.GameWon", spec := "gameWon", unfollowed := true, recurses := true, apart := false }
def GameWonSaid : Prop := gameWonRow.holds Try.pinned (OpenSpec.ofChange gameWonSpec)

/-- ITS FALSE NEIGHBOUR: 'it returns false'. Refute it at one input. -/
def gameWonWrong : ChangeSpec := { name := "gameWon", fn := fun _ => fun
  | [d1, d2, d3, d4, d5, d6] => { results := [.lit (.bool false)], args := [d1, d2, d3, d4, d5, d6] }
  | _ => none }
def GameWonWrongFalsely : Prop := gameWonRow.holds Try.pinned (OpenSpec.ofChange gameWonWrong)

/-- 'sherdlaw29.GameMore': WHATEVER THE INPUT: true; the input reads as it did. -/
def gameMoreSpec : ChangeSpec := { name := "gameMore", fn := fun _ => fun
  | [d1, d2, d3, d4, d5] => { results := [.lit (.bool true)], args := [d1, d2, d3, d4, d5] }
  | _ => none }
def gameMoreRow : OpenClaim := { program := "ytlhlhpgcjjhjkaa", sum := "e0bde41ce8ef130abf367b3fb79620d8d14ac38ce382ea8c5a078af9da2483e8", func := "sherd/sherdlaw29.GameMore", spec := "gameMore", unfollowed := true, recurses := true, apart := false }
def GameMoreSaid : Prop := gameMoreRow.holds Try.pinned (OpenSpec.ofChange gameMoreSpec)

/-- ITS FALSE NEIGHBOUR: 'it returns false'. Refute it at one input. -/
def gameMoreWrong : ChangeSpec := { name := "gameMore", fn := fun _ => fun
  | [d1, d2, d3, d4, d5] => { results := [.lit (.bool false)], args := [d1, d2, d3, d4, d5] }
  | _ => none }
def GameMoreWrongFalsely : Prop := gameMoreRow.holds Try.pinned (OpenSpec.ofChange gameMoreWrong)

/- THE SECOND FORM. 'bulk': how many values and letters a reading holds, each counted each time it is reached (what is shared counts as often as it is met; a slice's spare places count too). A statement '..UptoSaid' is the law's where the arguments, and the package variables that the reading takes, are together of bulk at most 1048576: NARROWER than '..Said'. Prove '..Said' where nothing that the law and all that it calls make is longer than what came in: it says more and counts as full. Else prove '..UptoSaid'. A law counts once. -/
mutual
def uptoBulk {H : Type} : DataW H → Nat
  | .lit (.string bytes) => bytes.length + 1
  | .lit _ => 1
  | .nil => 1
  | .ptr d => uptoBulk d + 1
  | .slice elems spare => uptoBulkAll elems + uptoBulkAll spare + 1
  | .agg parts => uptoBulkAll parts + 1
  | .iface _ d => uptoBulk d + 1
  | .map entries => uptoBulkEntries entries + 1
  | .held _ => 1
def uptoBulkAll {H : Type} : List (DataW H) → Nat
  | [] => 0
  | d :: r => uptoBulk d + uptoBulkAll r
def uptoBulkEntries {H : Type} : List (Lit × DataW H) → Nat
  | [] => 0
  | x :: r => uptoBulkEntry x + uptoBulkEntries r
def uptoBulkEntry {H : Type} : Lit × DataW H → Nat
  | (.string bytes, d) => bytes.length + uptoBulk d + 1
  | (_, d) => uptoBulk d + 1
 end
def uptoSmall : (H : Type) → List (DataW H) → Bool := fun _ ds => decide (uptoBulkAll ds ≤ 1048576)
def OpenSpec.upto (s : _root_.Go.ChangeSpec) : _root_.Go.OpenSpec := { _root_.Go.OpenSpec.ofChange s with cond := some uptoSmall }

/-- 'sherdlaw29.GameSolve', WHERE WHAT IT READS IS OF BULK AT MOST 1048576: true; the input reads as it did. -/
def gameSolveUptoRow : OpenClaim := { program := "ytlhlhpgcjjhjkaa", sum := "e0bde41ce8ef130abf367b3fb79620d8d14ac38ce382ea8c5a078af9da2483e8", func := "sherd/sherdlaw29.GameSolve", spec := "gameSolve", unfollowed := true, recurses := true, apart := false, narrowed := true }
def GameSolveUptoSaid : Prop := gameSolveUptoRow.holds Try.pinned (OpenSpec.upto gameSolveSpec)

/-- 'sherdlaw29.GameChecks', WHERE WHAT IT READS IS OF BULK AT MOST 1048576: true; the input reads as it did. -/
def gameChecksUptoRow : OpenClaim := { program := "ytlhlhpgcjjhjkaa", sum := "e0bde41ce8ef130abf367b3fb79620d8d14ac38ce382ea8c5a078af9da2483e8", func := "sherd/sherdlaw29.GameChecks", spec := "gameChecks", unfollowed := true, recurses := true, apart := false, narrowed := true }
def GameChecksUptoSaid : Prop := gameChecksUptoRow.holds Try.pinned (OpenSpec.upto gameChecksSpec)

/-- 'sherdlaw29.GamePlay', WHERE WHAT IT READS IS OF BULK AT MOST 1048576: true; the input reads as it did. -/
def gamePlayUptoRow : OpenClaim := { program := "ytlhlhpgcjjhjkaa", sum := "e0bde41ce8ef130abf367b3fb79620d8d14ac38ce382ea8c5a078af9da2483e8", func := "sherd/sherdlaw29.GamePlay", spec := "gamePlay", unfollowed := true, recurses := true, apart := false, narrowed := true }
def GamePlayUptoSaid : Prop := gamePlayUptoRow.holds Try.pinned (OpenSpec.upto gamePlaySpec)

/-- 'sherdlaw29.GameDetermined', WHERE WHAT IT READS IS OF BULK AT MOST 1048576: true; the input reads as it did. -/
def gameDeterminedUptoRow : OpenClaim := { program := "ytlhlhpgcjjhjkaa", sum := "e0bde41ce8ef130abf367b3fb79620d8d14ac38ce382ea8c5a078af9da2483e8", func := "sherd/sherdlaw29.GameDetermined", spec := "gameDetermined", unfollowed := true, recurses := true, apart := false, narrowed := true }
def GameDeterminedUptoSaid : Prop := gameDeterminedUptoRow.holds Try.pinned (OpenSpec.upto gameDeterminedSpec)

/-- 'sherdlaw29.GameWon', WHERE WHAT IT READS IS OF BULK AT MOST 1048576: true; the input reads as it did. -/
def gameWonUptoRow : OpenClaim := { program := "ytlhlhpgcjjhjkaa", sum := "e0bde41ce8ef130abf367b3fb79620d8d14ac38ce382ea8c5a078af9da2483e8", func := "sherd/sherdlaw29.GameWon", spec := "gameWon", unfollowed := true, recurses := true, apart := false, narrowed := true }
def GameWonUptoSaid : Prop := gameWonUptoRow.holds Try.pinned (OpenSpec.upto gameWonSpec)

/-- 'sherdlaw29.GameMore', WHERE WHAT IT READS IS OF BULK AT MOST 1048576: true; the input reads as it did. -/
def gameMoreUptoRow : OpenClaim := { program := "ytlhlhpgcjjhjkaa", sum := "e0bde41ce8ef130abf367b3fb79620d8d14ac38ce382ea8c5a078af9da2483e8", func := "sherd/sherdlaw29.GameMore", spec := "gameMore", unfollowed := true, recurses := true, apart := false, narrowed := true }
def GameMoreUptoSaid : Prop := gameMoreUptoRow.holds Try.pinned (OpenSpec.upto gameMoreSpec)

end Rows
end Go.Proofs.Ytlhlhpgcjjhjkaa
