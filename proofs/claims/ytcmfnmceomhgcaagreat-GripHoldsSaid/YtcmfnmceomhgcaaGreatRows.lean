/-
  No cell of these rows narrows 'for every input' (looked for: loops, veiled, ifaces, maps, wideKeys, modest, calm, conditions, laid).
  DERIVED. THE GIVEN ROWS OF THIS SEAT. 8 by the template 'for every input the law returns true; each argument reads behind the call as it read before'; 0 by the template 'total and deterministic' (their statements: YtcmfnmceomhgcaaGreatTotals.lean).
  GIVEN WITH THE SEED: the statements are not yours to turn. If you find one false, say at which input.
  Laid BY PROGRAM, IN A SANDBOX (cutbox-rows.mjs): the forced cells as the released guide's own fill.sh prints them over the translation 7b7ec55b86732cef… (all of the seat's roots in one cut). By AI agents, Wed Nov 11 2026. No macro, syntax, notation, axiom, sorry.
-/
import Derived.Test.YtcmfnmceomhgcaaGreatChecked
import GoSem.Claim
import GoSem.ClaimJoined
import GoSem.ClaimMapViews
import Derived.JoinedTies
import Derived.KernelRfl
namespace Go.Proofs.YtcmfnmceomhgcaaGreat
/- THE CELL 'sum', in the pinned program and in every row, IS THE sha256 OF THE DUMP (.gsa) THAT YtcmfnmceomhgcaaGreatProg.lean LOADS. Nothing in Lean hashes anything: it is a label: what it is worth is what the hold of that sum in a sandbox is worth. -/
noncomputable def Tryz.pinned : Pinned := { name := "ytcmfnmceomhgcaagreat", sum := "7b7ec55b86732cef7a253d75cf87ab354fdc58629bb4809a04e435005cfd199d", checked := Tryz.checked }
namespace Rows
def none {H : Type} : Left H := { results := [], args := [] }

/-- 'sherdlaw23.GripValid': WHATEVER THE INPUT: true; the input reads as it did. -/
def gripValidSpec : ChangeSpec := { name := "gripValid", fn := fun _ => fun
  | [d1, d2, d3, d4] => { results := [.lit (.bool true)], args := [d1, d2, d3, d4] }
  | _ => none }
def gripValidRow : OpenClaim := { program := "ytcmfnmceomhgcaagreat", sum := "7b7ec55b86732cef7a253d75cf87ab354fdc58629bb4809a04e435005cfd199d", func := "sherd/sherdlaw23.GripValid", spec := "gripValid", unfollowed := true, recurses := true, apart := false }
def GripValidSaid : Prop := gripValidRow.holds Tryz.pinned (OpenSpec.ofChange gripValidSpec)

/-- ITS FALSE NEIGHBOUR: 'it returns false'. Refute it at one input. -/
def gripValidWrong : ChangeSpec := { name := "gripValid", fn := fun _ => fun
  | [d1, d2, d3, d4] => { results := [.lit (.bool false)], args := [d1, d2, d3, d4] }
  | _ => none }
def GripValidWrongFalsely : Prop := gripValidRow.holds Tryz.pinned (OpenSpec.ofChange gripValidWrong)

/-- 'sherdlaw23.GripHolds': WHATEVER THE INPUT: true; the input reads as it did. -/
def gripHoldsSpec : ChangeSpec := { name := "gripHolds", fn := fun _ => fun
  | [d1, d2, d3, d4, d5] => { results := [.lit (.bool true)], args := [d1, d2, d3, d4, d5] }
  | _ => none }
def gripHoldsRow : OpenClaim := { program := "ytcmfnmceomhgcaagreat", sum := "7b7ec55b86732cef7a253d75cf87ab354fdc58629bb4809a04e435005cfd199d", func := "sherd/sherdlaw23.GripHolds", spec := "gripHolds", unfollowed := true, recurses := true, apart := false }
def GripHoldsSaid : Prop := gripHoldsRow.holds Tryz.pinned (OpenSpec.ofChange gripHoldsSpec)

/-- ITS FALSE NEIGHBOUR: 'it returns false'. Refute it at one input. -/
def gripHoldsWrong : ChangeSpec := { name := "gripHolds", fn := fun _ => fun
  | [d1, d2, d3, d4, d5] => { results := [.lit (.bool false)], args := [d1, d2, d3, d4, d5] }
  | _ => none }
def GripHoldsWrongFalsely : Prop := gripHoldsRow.holds Tryz.pinned (OpenSpec.ofChange gripHoldsWrong)

/-- 'sherdlaw23.GripLess': WHATEVER THE INPUT: true; the input reads as it did. -/
def gripLessSpec : ChangeSpec := { name := "gripLess", fn := fun _ => fun
  | [d1, d2, d3, d4, d5, d6] => { results := [.lit (.bool true)], args := [d1, d2, d3, d4, d5, d6] }
  | _ => none }
def gripLessRow : OpenClaim := { program := "ytcmfnmceomhgcaagreat", sum := "7b7ec55b86732cef7a253d75cf87ab354fdc58629bb4809a04e435005cfd199d", func := "sherd/sherdlaw23.GripLess", spec := "gripLess", unfollowed := true, recurses := true, apart := false }
def GripLessSaid : Prop := gripLessRow.holds Tryz.pinned (OpenSpec.ofChange gripLessSpec)

/-- ITS FALSE NEIGHBOUR: 'it returns false'. Refute it at one input. -/
def gripLessWrong : ChangeSpec := { name := "gripLess", fn := fun _ => fun
  | [d1, d2, d3, d4, d5, d6] => { results := [.lit (.bool false)], args := [d1, d2, d3, d4, d5, d6] }
  | _ => none }
def GripLessWrongFalsely : Prop := gripLessRow.holds Tryz.pinned (OpenSpec.ofChange gripLessWrong)

/-- 'sherdlaw23.GripMoved': WHATEVER THE INPUT: true; the input reads as it did. -/
def gripMovedSpec : ChangeSpec := { name := "gripMoved", fn := fun _ => fun
  | [d1, d2, d3, d4, d5] => { results := [.lit (.bool true)], args := [d1, d2, d3, d4, d5] }
  | _ => none }
def gripMovedRow : OpenClaim := { program := "ytcmfnmceomhgcaagreat", sum := "7b7ec55b86732cef7a253d75cf87ab354fdc58629bb4809a04e435005cfd199d", func := "sherd/sherdlaw23.GripMoved", spec := "gripMoved", unfollowed := true, recurses := true, apart := false }
def GripMovedSaid : Prop := gripMovedRow.holds Tryz.pinned (OpenSpec.ofChange gripMovedSpec)

/-- ITS FALSE NEIGHBOUR: 'it returns false'. Refute it at one input. -/
def gripMovedWrong : ChangeSpec := { name := "gripMoved", fn := fun _ => fun
  | [d1, d2, d3, d4, d5] => { results := [.lit (.bool false)], args := [d1, d2, d3, d4, d5] }
  | _ => none }
def GripMovedWrongFalsely : Prop := gripMovedRow.holds Tryz.pinned (OpenSpec.ofChange gripMovedWrong)

/-- 'sherdlaw23.GripStronger': WHATEVER THE INPUT: true; the input reads as it did. -/
def gripStrongerSpec : ChangeSpec := { name := "gripStronger", fn := fun _ => fun
  | [d1, d2, d3, d4, d5] => { results := [.lit (.bool true)], args := [d1, d2, d3, d4, d5] }
  | _ => none }
def gripStrongerRow : OpenClaim := { program := "ytcmfnmceomhgcaagreat", sum := "7b7ec55b86732cef7a253d75cf87ab354fdc58629bb4809a04e435005cfd199d", func := "sherd/sherdlaw23.GripStronger", spec := "gripStronger", unfollowed := true, recurses := true, apart := false }
def GripStrongerSaid : Prop := gripStrongerRow.holds Tryz.pinned (OpenSpec.ofChange gripStrongerSpec)

/-- ITS FALSE NEIGHBOUR: 'it returns false'. Refute it at one input. -/
def gripStrongerWrong : ChangeSpec := { name := "gripStronger", fn := fun _ => fun
  | [d1, d2, d3, d4, d5] => { results := [.lit (.bool false)], args := [d1, d2, d3, d4, d5] }
  | _ => none }
def GripStrongerWrongFalsely : Prop := gripStrongerRow.holds Tryz.pinned (OpenSpec.ofChange gripStrongerWrong)

/-- 'sherdlaw23.GripBest': WHATEVER THE INPUT: true; the input reads as it did. -/
def gripBestSpec : ChangeSpec := { name := "gripBest", fn := fun _ => fun
  | [d1, d2, d3, d4, d5, d6] => { results := [.lit (.bool true)], args := [d1, d2, d3, d4, d5, d6] }
  | _ => none }
def gripBestRow : OpenClaim := { program := "ytcmfnmceomhgcaagreat", sum := "7b7ec55b86732cef7a253d75cf87ab354fdc58629bb4809a04e435005cfd199d", func := "sherd/sherdlaw23.GripBest", spec := "gripBest", unfollowed := true, recurses := true, apart := false }
def GripBestSaid : Prop := gripBestRow.holds Tryz.pinned (OpenSpec.ofChange gripBestSpec)

/-- ITS FALSE NEIGHBOUR: 'it returns false'. Refute it at one input. -/
def gripBestWrong : ChangeSpec := { name := "gripBest", fn := fun _ => fun
  | [d1, d2, d3, d4, d5, d6] => { results := [.lit (.bool false)], args := [d1, d2, d3, d4, d5, d6] }
  | _ => none }
def GripBestWrongFalsely : Prop := gripBestRow.holds Tryz.pinned (OpenSpec.ofChange gripBestWrong)

/-- 'sherdlaw23.GripFinds': WHATEVER THE INPUT: true; the input reads as it did. -/
def gripFindsSpec : ChangeSpec := { name := "gripFinds", fn := fun _ => fun
  | [d1, d2, d3, d4, d5] => { results := [.lit (.bool true)], args := [d1, d2, d3, d4, d5] }
  | _ => none }
def gripFindsRow : OpenClaim := { program := "ytcmfnmceomhgcaagreat", sum := "7b7ec55b86732cef7a253d75cf87ab354fdc58629bb4809a04e435005cfd199d", func := "sherd/sherdlaw23.GripFinds", spec := "gripFinds", unfollowed := true, recurses := true, apart := false }
def GripFindsSaid : Prop := gripFindsRow.holds Tryz.pinned (OpenSpec.ofChange gripFindsSpec)

/-- ITS FALSE NEIGHBOUR: 'it returns false'. Refute it at one input. -/
def gripFindsWrong : ChangeSpec := { name := "gripFinds", fn := fun _ => fun
  | [d1, d2, d3, d4, d5] => { results := [.lit (.bool false)], args := [d1, d2, d3, d4, d5] }
  | _ => none }
def GripFindsWrongFalsely : Prop := gripFindsRow.holds Tryz.pinned (OpenSpec.ofChange gripFindsWrong)

/-- 'sherdlaw23.GripProgram': WHATEVER THE INPUT: true; the input reads as it did. -/
def gripProgramSpec : ChangeSpec := { name := "gripProgram", fn := fun _ => fun
  | [d1, d2, d3] => { results := [.lit (.bool true)], args := [d1, d2, d3] }
  | _ => none }
def gripProgramRow : OpenClaim := { program := "ytcmfnmceomhgcaagreat", sum := "7b7ec55b86732cef7a253d75cf87ab354fdc58629bb4809a04e435005cfd199d", func := "sherd/sherdlaw23.GripProgram", spec := "gripProgram", unfollowed := true, recurses := true, apart := false }
def GripProgramSaid : Prop := gripProgramRow.holds Tryz.pinned (OpenSpec.ofChange gripProgramSpec)

/-- ITS FALSE NEIGHBOUR: 'it returns false'. Refute it at one input. -/
def gripProgramWrong : ChangeSpec := { name := "gripProgram", fn := fun _ => fun
  | [d1, d2, d3] => { results := [.lit (.bool false)], args := [d1, d2, d3] }
  | _ => none }
def GripProgramWrongFalsely : Prop := gripProgramRow.holds Tryz.pinned (OpenSpec.ofChange gripProgramWrong)

/- THE SECOND FORM. 'bulk': how many values and letters a reading holds, each counted each time it is reached (what is shared counts as often as it is met; a slice's spare places count too). A statement '..UptoSaid' is the law's where the arguments, and the package variables that the reading takes, are together of bulk at most 1048576: NARROWER than '..Said'. Prove '..Said' where nothing that the law and all that it calls make is longer than what came in: it says more and counts as full. Else prove '..UptoSaid'. A law counts once. -/
mutual
def uptoBulk {H : Type} : DataW H → Nat
  | .lit (.string bytes) => bytes.length + 1
  | .lit _ => 1
  | .nil => 1
  | .ptr d => uptoBulk d + 1
  | .slice elems spare => uptoBulkAll elems + uptoBulkAll spare + 1
  | .agg parts => uptoBulkAll parts + 1
  | .iface _ d => uptoBulk d + 1
  | .map entries => uptoBulkEntries entries + 1
  | .held _ => 1
def uptoBulkAll {H : Type} : List (DataW H) → Nat
  | [] => 0
  | d :: r => uptoBulk d + uptoBulkAll r
def uptoBulkEntries {H : Type} : List (Lit × DataW H) → Nat
  | [] => 0
  | x :: r => uptoBulkEntry x + uptoBulkEntries r
def uptoBulkEntry {H : Type} : Lit × DataW H → Nat
  | (.string bytes, d) => bytes.length + uptoBulk d + 1
  | (_, d) => uptoBulk d + 1
 end
def uptoSmall : (H : Type) → List (DataW H) → Bool := fun _ ds => decide (uptoBulkAll ds ≤ 1048576)
def OpenSpec.upto (s : _root_.Go.ChangeSpec) : _root_.Go.OpenSpec := { _root_.Go.OpenSpec.ofChange s with cond := some uptoSmall }

/-- 'sherdlaw23.GripValid', WHERE WHAT IT READS IS OF BULK AT MOST 1048576: true; the input reads as it did. -/
def gripValidUptoRow : OpenClaim := { program := "ytcmfnmceomhgcaagreat", sum := "7b7ec55b86732cef7a253d75cf87ab354fdc58629bb4809a04e435005cfd199d", func := "sherd/sherdlaw23.GripValid", spec := "gripValid", unfollowed := true, recurses := true, apart := false, narrowed := true }
def GripValidUptoSaid : Prop := gripValidUptoRow.holds Tryz.pinned (OpenSpec.upto gripValidSpec)

/-- 'sherdlaw23.GripHolds', WHERE WHAT IT READS IS OF BULK AT MOST 1048576: true; the input reads as it did. -/
def gripHoldsUptoRow : OpenClaim := { program := "ytcmfnmceomhgcaagreat", sum := "7b7ec55b86732cef7a253d75cf87ab354fdc58629bb4809a04e435005cfd199d", func := "sherd/sherdlaw23.GripHolds", spec := "gripHolds", unfollowed := true, recurses := true, apart := false, narrowed := true }
def GripHoldsUptoSaid : Prop := gripHoldsUptoRow.holds Tryz.pinned (OpenSpec.upto gripHoldsSpec)

/-- 'sherdlaw23.GripLess', WHERE WHAT IT READS IS OF BULK AT MOST 1048576: true; the input reads as it did. -/
def gripLessUptoRow : OpenClaim := { program := "ytcmfnmceomhgcaagreat", sum := "7b7ec55b86732cef7a253d75cf87ab354fdc58629bb4809a04e435005cfd199d", func := "sherd/sherdlaw23.GripLess", spec := "gripLess", unfollowed := true, recurses := true, apart := false, narrowed := true }
def GripLessUptoSaid : Prop := gripLessUptoRow.holds Tryz.pinned (OpenSpec.upto gripLessSpec)

/-- 'sherdlaw23.GripMoved', WHERE WHAT IT READS IS OF BULK AT MOST 1048576: true; the input reads as it did. -/
def gripMovedUptoRow : OpenClaim := { program := "ytcmfnmceomhgcaagreat", sum := "7b7ec55b86732cef7a253d75cf87ab354fdc58629bb4809a04e435005cfd199d", func := "sherd/sherdlaw23.GripMoved", spec := "gripMoved", unfollowed := true, recurses := true, apart := false, narrowed := true }
def GripMovedUptoSaid : Prop := gripMovedUptoRow.holds Tryz.pinned (OpenSpec.upto gripMovedSpec)

/-- 'sherdlaw23.GripStronger', WHERE WHAT IT READS IS OF BULK AT MOST 1048576: true; the input reads as it did. -/
def gripStrongerUptoRow : OpenClaim := { program := "ytcmfnmceomhgcaagreat", sum := "7b7ec55b86732cef7a253d75cf87ab354fdc58629bb4809a04e435005cfd199d", func := "sherd/sherdlaw23.GripStronger", spec := "gripStronger", unfollowed := true, recurses := true, apart := false, narrowed := true }
def GripStrongerUptoSaid : Prop := gripStrongerUptoRow.holds Tryz.pinned (OpenSpec.upto gripStrongerSpec)

/-- 'sherdlaw23.GripBest', WHERE WHAT IT READS IS OF BULK AT MOST 1048576: true; the input reads as it did. -/
def gripBestUptoRow : OpenClaim := { program := "ytcmfnmceomhgcaagreat", sum := "7b7ec55b86732cef7a253d75cf87ab354fdc58629bb4809a04e435005cfd199d", func := "sherd/sherdlaw23.GripBest", spec := "gripBest", unfollowed := true, recurses := true, apart := false, narrowed := true }
def GripBestUptoSaid : Prop := gripBestUptoRow.holds Tryz.pinned (OpenSpec.upto gripBestSpec)

/-- 'sherdlaw23.GripFinds', WHERE WHAT IT READS IS OF BULK AT MOST 1048576: true; the input reads as it did. -/
def gripFindsUptoRow : OpenClaim := { program := "ytcmfnmceomhgcaagreat", sum := "7b7ec55b86732cef7a253d75cf87ab354fdc58629bb4809a04e435005cfd199d", func := "sherd/sherdlaw23.GripFinds", spec := "gripFinds", unfollowed := true, recurses := true, apart := false, narrowed := true }
def GripFindsUptoSaid : Prop := gripFindsUptoRow.holds Tryz.pinned (OpenSpec.upto gripFindsSpec)

/-- 'sherdlaw23.GripProgram', WHERE WHAT IT READS IS OF BULK AT MOST 1048576: true; the input reads as it did. -/
def gripProgramUptoRow : OpenClaim := { program := "ytcmfnmceomhgcaagreat", sum := "7b7ec55b86732cef7a253d75cf87ab354fdc58629bb4809a04e435005cfd199d", func := "sherd/sherdlaw23.GripProgram", spec := "gripProgram", unfollowed := true, recurses := true, apart := false, narrowed := true }
def GripProgramUptoSaid : Prop := gripProgramUptoRow.holds Tryz.pinned (OpenSpec.upto gripProgramSpec)

end Rows
end Go.Proofs.YtcmfnmceomhgcaaGreat
