/-
  No cell of these rows narrows 'for every input' (looked for: loops, veiled, ifaces, maps, wideKeys, modest, calm, conditions, laid).
  DERIVED. THE GIVEN ROWS OF THIS SEAT. 11 by the template 'for every input the law returns true; each argument reads behind the call as it read before'; 0 by the template 'total and deterministic' (their statements: YtefjhgcndhepeaaGreatTotals.lean).
  GIVEN WITH THE SEED: the statements are not yours to turn. If you find one false, say at which input.
  Laid BY PROGRAM, IN A SANDBOX (cutbox-rows.mjs): the forced cells as the released guide's own fill.sh prints them over the translation 76d053c27b28311c… (all of the seat's roots in one cut). By AI agents, Wed Nov 11 2026. No macro, syntax, notation, axiom, sorry.
-/
import Derived.Test.YtefjhgcndhepeaaGreatChecked
import GoSem.Claim
import GoSem.ClaimJoined
import GoSem.ClaimMapViews
import Derived.JoinedTies
import Derived.KernelRfl
namespace Go.Proofs.YtefjhgcndhepeaaGreat
/- THE CELL 'sum', in the pinned program and in every row, IS THE sha256 OF THE DUMP (.gsa) THAT YtefjhgcndhepeaaGreatProg.lean LOADS. Nothing in Lean hashes anything: it is a label: what it is worth is what the hold of that sum in a sandbox is worth. -/
noncomputable def Tryz.pinned : Pinned := { name := "ytefjhgcndhepeaagreat", sum := "76d053c27b28311c3502ae807f76bf369205dea4e312a578207476fc54c22499", checked := Tryz.checked }
namespace Rows
def none {H : Type} : Left H := { results := [], args := [] }

/-- 'sherdlaw36.CastOf': WHATEVER THE INPUT: true; the input reads as it did. -/
def castOfSpec : ChangeSpec := { name := "castOf", fn := fun _ => fun
  | [d1, d2, d3, d4, d5, d6] => { results := [.lit (.bool true)], args := [d1, d2, d3, d4, d5, d6] }
  | _ => none }
def castOfRow : OpenClaim := { program := "ytefjhgcndhepeaagreat", sum := "76d053c27b28311c3502ae807f76bf369205dea4e312a578207476fc54c22499", func := "sherd/sherdlaw36.CastOf", spec := "castOf", unfollowed := true, recurses := true, apart := false }
def CastOfSaid : Prop := castOfRow.holds Tryz.pinned (OpenSpec.ofChange castOfSpec)

/-- ITS FALSE NEIGHBOUR: 'it returns false'. Refute it at one input. -/
def castOfWrong : ChangeSpec := { name := "castOf", fn := fun _ => fun
  | [d1, d2, d3, d4, d5, d6] => { results := [.lit (.bool false)], args := [d1, d2, d3, d4, d5, d6] }
  | _ => none }
def CastOfWrongFalsely : Prop := castOfRow.holds Tryz.pinned (OpenSpec.ofChange castOfWrong)

/-- 'sherdlaw36.CastCasts': WHATEVER THE INPUT: true; the input reads as it did. -/
def castCastsSpec : ChangeSpec := { name := "castCasts", fn := fun _ => fun
  | [d1, d2, d3, d4, d5] => { results := [.lit (.bool true)], args := [d1, d2, d3, d4, d5] }
  | _ => none }
def castCastsRow : OpenClaim := { program := "ytefjhgcndhepeaagreat", sum := "76d053c27b28311c3502ae807f76bf369205dea4e312a578207476fc54c22499", func := "sherd/sherdlaw36.CastCasts", spec := "castCasts", unfollowed := true, recurses := true, apart := false }
def CastCastsSaid : Prop := castCastsRow.holds Tryz.pinned (OpenSpec.ofChange castCastsSpec)

/-- ITS FALSE NEIGHBOUR: 'it returns false'. Refute it at one input. -/
def castCastsWrong : ChangeSpec := { name := "castCasts", fn := fun _ => fun
  | [d1, d2, d3, d4, d5] => { results := [.lit (.bool false)], args := [d1, d2, d3, d4, d5] }
  | _ => none }
def CastCastsWrongFalsely : Prop := castCastsRow.holds Tryz.pinned (OpenSpec.ofChange castCastsWrong)

/-- 'sherdlaw36.CastLoose': WHATEVER THE INPUT: true; the input reads as it did. -/
def castLooseSpec : ChangeSpec := { name := "castLoose", fn := fun _ => fun
  | [d1, d2, d3, d4, d5, d6] => { results := [.lit (.bool true)], args := [d1, d2, d3, d4, d5, d6] }
  | _ => none }
def castLooseRow : OpenClaim := { program := "ytefjhgcndhepeaagreat", sum := "76d053c27b28311c3502ae807f76bf369205dea4e312a578207476fc54c22499", func := "sherd/sherdlaw36.CastLoose", spec := "castLoose", unfollowed := true, recurses := true, apart := false }
def CastLooseSaid : Prop := castLooseRow.holds Tryz.pinned (OpenSpec.ofChange castLooseSpec)

/-- ITS FALSE NEIGHBOUR: 'it returns false'. Refute it at one input. -/
def castLooseWrong : ChangeSpec := { name := "castLoose", fn := fun _ => fun
  | [d1, d2, d3, d4, d5, d6] => { results := [.lit (.bool false)], args := [d1, d2, d3, d4, d5, d6] }
  | _ => none }
def CastLooseWrongFalsely : Prop := castLooseRow.holds Tryz.pinned (OpenSpec.ofChange castLooseWrong)

/-- 'sherdlaw13.FitAnchor': WHATEVER THE INPUT: true; the input reads as it did. -/
def fitAnchorSpec : ChangeSpec := { name := "fitAnchor", fn := fun _ => fun
  | [d1, d2, d3, d4, d5, d6] => { results := [.lit (.bool true)], args := [d1, d2, d3, d4, d5, d6] }
  | _ => none }
def fitAnchorRow : OpenClaim := { program := "ytefjhgcndhepeaagreat", sum := "76d053c27b28311c3502ae807f76bf369205dea4e312a578207476fc54c22499", func := "sherd/sherdlaw13.FitAnchor", spec := "fitAnchor", unfollowed := true, recurses := true, apart := false }
def FitAnchorSaid : Prop := fitAnchorRow.holds Tryz.pinned (OpenSpec.ofChange fitAnchorSpec)

/-- ITS FALSE NEIGHBOUR: 'it returns false'. Refute it at one input. -/
def fitAnchorWrong : ChangeSpec := { name := "fitAnchor", fn := fun _ => fun
  | [d1, d2, d3, d4, d5, d6] => { results := [.lit (.bool false)], args := [d1, d2, d3, d4, d5, d6] }
  | _ => none }
def FitAnchorWrongFalsely : Prop := fitAnchorRow.holds Tryz.pinned (OpenSpec.ofChange fitAnchorWrong)

/-- 'sherdlaw13.FitFind': WHATEVER THE INPUT: true; the input reads as it did. -/
def fitFindSpec : ChangeSpec := { name := "fitFind", fn := fun _ => fun
  | [d1, d2] => { results := [.lit (.bool true)], args := [d1, d2] }
  | _ => none }
def fitFindRow : OpenClaim := { program := "ytefjhgcndhepeaagreat", sum := "76d053c27b28311c3502ae807f76bf369205dea4e312a578207476fc54c22499", func := "sherd/sherdlaw13.FitFind", spec := "fitFind", unfollowed := true, recurses := true, apart := false }
def FitFindSaid : Prop := fitFindRow.holds Tryz.pinned (OpenSpec.ofChange fitFindSpec)

/-- ITS FALSE NEIGHBOUR: 'it returns false'. Refute it at one input. -/
def fitFindWrong : ChangeSpec := { name := "fitFind", fn := fun _ => fun
  | [d1, d2] => { results := [.lit (.bool false)], args := [d1, d2] }
  | _ => none }
def FitFindWrongFalsely : Prop := fitFindRow.holds Tryz.pinned (OpenSpec.ofChange fitFindWrong)

/-- 'sherdlaw13.FitExact': WHATEVER THE INPUT: true; the input reads as it did. -/
def fitExactSpec : ChangeSpec := { name := "fitExact", fn := fun _ => fun
  | [d1, d2, d3] => { results := [.lit (.bool true)], args := [d1, d2, d3] }
  | _ => none }
def fitExactRow : OpenClaim := { program := "ytefjhgcndhepeaagreat", sum := "76d053c27b28311c3502ae807f76bf369205dea4e312a578207476fc54c22499", func := "sherd/sherdlaw13.FitExact", spec := "fitExact", unfollowed := true, recurses := true, apart := false }
def FitExactSaid : Prop := fitExactRow.holds Tryz.pinned (OpenSpec.ofChange fitExactSpec)

/-- ITS FALSE NEIGHBOUR: 'it returns false'. Refute it at one input. -/
def fitExactWrong : ChangeSpec := { name := "fitExact", fn := fun _ => fun
  | [d1, d2, d3] => { results := [.lit (.bool false)], args := [d1, d2, d3] }
  | _ => none }
def FitExactWrongFalsely : Prop := fitExactRow.holds Tryz.pinned (OpenSpec.ofChange fitExactWrong)

/-- 'sherdlaw13.FitChecks': WHATEVER THE INPUT: true; the input reads as it did. -/
def fitChecksSpec : ChangeSpec := { name := "fitChecks", fn := fun _ => fun
  | [d1, d2, d3, d4, d5] => { results := [.lit (.bool true)], args := [d1, d2, d3, d4, d5] }
  | _ => none }
def fitChecksRow : OpenClaim := { program := "ytefjhgcndhepeaagreat", sum := "76d053c27b28311c3502ae807f76bf369205dea4e312a578207476fc54c22499", func := "sherd/sherdlaw13.FitChecks", spec := "fitChecks", unfollowed := true, recurses := true, apart := false }
def FitChecksSaid : Prop := fitChecksRow.holds Tryz.pinned (OpenSpec.ofChange fitChecksSpec)

/-- ITS FALSE NEIGHBOUR: 'it returns false'. Refute it at one input. -/
def fitChecksWrong : ChangeSpec := { name := "fitChecks", fn := fun _ => fun
  | [d1, d2, d3, d4, d5] => { results := [.lit (.bool false)], args := [d1, d2, d3, d4, d5] }
  | _ => none }
def FitChecksWrongFalsely : Prop := fitChecksRow.holds Tryz.pinned (OpenSpec.ofChange fitChecksWrong)

/-- 'sherdlaw13.FitFlip': WHATEVER THE INPUT: true; the input reads as it did. -/
def fitFlipSpec : ChangeSpec := { name := "fitFlip", fn := fun _ => fun
  | [d1, d2, d3, d4, d5] => { results := [.lit (.bool true)], args := [d1, d2, d3, d4, d5] }
  | _ => none }
def fitFlipRow : OpenClaim := { program := "ytefjhgcndhepeaagreat", sum := "76d053c27b28311c3502ae807f76bf369205dea4e312a578207476fc54c22499", func := "sherd/sherdlaw13.FitFlip", spec := "fitFlip", unfollowed := true, recurses := true, apart := false }
def FitFlipSaid : Prop := fitFlipRow.holds Tryz.pinned (OpenSpec.ofChange fitFlipSpec)

/-- ITS FALSE NEIGHBOUR: 'it returns false'. Refute it at one input. -/
def fitFlipWrong : ChangeSpec := { name := "fitFlip", fn := fun _ => fun
  | [d1, d2, d3, d4, d5] => { results := [.lit (.bool false)], args := [d1, d2, d3, d4, d5] }
  | _ => none }
def FitFlipWrongFalsely : Prop := fitFlipRow.holds Tryz.pinned (OpenSpec.ofChange fitFlipWrong)

/-- 'sherdlaw13.FitBroken': WHATEVER THE INPUT: true; the input reads as it did. -/
def fitBrokenSpec : ChangeSpec := { name := "fitBroken", fn := fun _ => fun
  | [d] => { results := [.lit (.bool true)], args := [d] }
  | _ => none }
def fitBrokenRow : OpenClaim := { program := "ytefjhgcndhepeaagreat", sum := "76d053c27b28311c3502ae807f76bf369205dea4e312a578207476fc54c22499", func := "sherd/sherdlaw13.FitBroken", spec := "fitBroken", unfollowed := true, recurses := true, apart := false }
def FitBrokenSaid : Prop := fitBrokenRow.holds Tryz.pinned (OpenSpec.ofChange fitBrokenSpec)

/-- ITS FALSE NEIGHBOUR: 'it returns false'. Refute it at one input. -/
def fitBrokenWrong : ChangeSpec := { name := "fitBroken", fn := fun _ => fun
  | [d] => { results := [.lit (.bool false)], args := [d] }
  | _ => none }
def FitBrokenWrongFalsely : Prop := fitBrokenRow.holds Tryz.pinned (OpenSpec.ofChange fitBrokenWrong)

/-- 'sherdlaw36.CastStands': WHATEVER THE INPUT: true; the input reads as it did. -/
def castStandsSpec : ChangeSpec := { name := "castStands", fn := fun _ => fun
  | [d1, d2, d3] => { results := [.lit (.bool true)], args := [d1, d2, d3] }
  | _ => none }
def castStandsRow : OpenClaim := { program := "ytefjhgcndhepeaagreat", sum := "76d053c27b28311c3502ae807f76bf369205dea4e312a578207476fc54c22499", func := "sherd/sherdlaw36.CastStands", spec := "castStands", unfollowed := true, recurses := true, apart := false }
def CastStandsSaid : Prop := castStandsRow.holds Tryz.pinned (OpenSpec.ofChange castStandsSpec)

/-- ITS FALSE NEIGHBOUR: 'it returns false'. Refute it at one input. -/
def castStandsWrong : ChangeSpec := { name := "castStands", fn := fun _ => fun
  | [d1, d2, d3] => { results := [.lit (.bool false)], args := [d1, d2, d3] }
  | _ => none }
def CastStandsWrongFalsely : Prop := castStandsRow.holds Tryz.pinned (OpenSpec.ofChange castStandsWrong)

/-- 'sherdlaw36.CastSettled': WHATEVER THE INPUT: true; the input reads as it did. -/
def castSettledSpec : ChangeSpec := { name := "castSettled", fn := fun _ => fun
  | [d1, d2, d3] => { results := [.lit (.bool true)], args := [d1, d2, d3] }
  | _ => none }
def castSettledRow : OpenClaim := { program := "ytefjhgcndhepeaagreat", sum := "76d053c27b28311c3502ae807f76bf369205dea4e312a578207476fc54c22499", func := "sherd/sherdlaw36.CastSettled", spec := "castSettled", unfollowed := true, recurses := true, apart := false }
def CastSettledSaid : Prop := castSettledRow.holds Tryz.pinned (OpenSpec.ofChange castSettledSpec)

/-- ITS FALSE NEIGHBOUR: 'it returns false'. Refute it at one input. -/
def castSettledWrong : ChangeSpec := { name := "castSettled", fn := fun _ => fun
  | [d1, d2, d3] => { results := [.lit (.bool false)], args := [d1, d2, d3] }
  | _ => none }
def CastSettledWrongFalsely : Prop := castSettledRow.holds Tryz.pinned (OpenSpec.ofChange castSettledWrong)

/- THE SECOND FORM. 'bulk': how many values and letters a reading holds, each counted each time it is reached (what is shared counts as often as it is met; a slice's spare places count too). A statement '..UptoSaid' is the law's where the arguments, and the package variables that the reading takes, are together of bulk at most 1048576: NARROWER than '..Said'. Prove '..Said' where nothing that the law and all that it calls make is longer than what came in: it says more and counts as full. Else prove '..UptoSaid'. A law counts once. -/
mutual
def uptoBulk {H : Type} : DataW H → Nat
  | .lit (.string bytes) => bytes.length + 1
  | .lit _ => 1
  | .nil => 1
  | .ptr d => uptoBulk d + 1
  | .slice elems spare => uptoBulkAll elems + uptoBulkAll spare + 1
  | .agg parts => uptoBulkAll parts + 1
  | .iface _ d => uptoBulk d + 1
  | .map entries => uptoBulkEntries entries + 1
  | .held _ => 1
def uptoBulkAll {H : Type} : List (DataW H) → Nat
  | [] => 0
  | d :: r => uptoBulk d + uptoBulkAll r
def uptoBulkEntries {H : Type} : List (Lit × DataW H) → Nat
  | [] => 0
  | x :: r => uptoBulkEntry x + uptoBulkEntries r
def uptoBulkEntry {H : Type} : Lit × DataW H → Nat
  | (.string bytes, d) => bytes.length + uptoBulk d + 1
  | (_, d) => uptoBulk d + 1
 end
def uptoSmall : (H : Type) → List (DataW H) → Bool := fun _ ds => decide (uptoBulkAll ds ≤ 1048576)
def OpenSpec.upto (s : _root_.Go.ChangeSpec) : _root_.Go.OpenSpec := { _root_.Go.OpenSpec.ofChange s with cond := some uptoSmall }

/-- 'sherdlaw36.CastOf', WHERE WHAT IT READS IS OF BULK AT MOST 1048576: true; the input reads as it did. -/
def castOfUptoRow : OpenClaim := { program := "ytefjhgcndhepeaagreat", sum := "76d053c27b28311c3502ae807f76bf369205dea4e312a578207476fc54c22499", func := "sherd/sherdlaw36.CastOf", spec := "castOf", unfollowed := true, recurses := true, apart := false, narrowed := true }
def CastOfUptoSaid : Prop := castOfUptoRow.holds Tryz.pinned (OpenSpec.upto castOfSpec)

/-- 'sherdlaw36.CastCasts', WHERE WHAT IT READS IS OF BULK AT MOST 1048576: true; the input reads as it did. -/
def castCastsUptoRow : OpenClaim := { program := "ytefjhgcndhepeaagreat", sum := "76d053c27b28311c3502ae807f76bf369205dea4e312a578207476fc54c22499", func := "sherd/sherdlaw36.CastCasts", spec := "castCasts", unfollowed := true, recurses := true, apart := false, narrowed := true }
def CastCastsUptoSaid : Prop := castCastsUptoRow.holds Tryz.pinned (OpenSpec.upto castCastsSpec)

/-- 'sherdlaw36.CastLoose', WHERE WHAT IT READS IS OF BULK AT MOST 1048576: true; the input reads as it did. -/
def castLooseUptoRow : OpenClaim := { program := "ytefjhgcndhepeaagreat", sum := "76d053c27b28311c3502ae807f76bf369205dea4e312a578207476fc54c22499", func := "sherd/sherdlaw36.CastLoose", spec := "castLoose", unfollowed := true, recurses := true, apart := false, narrowed := true }
def CastLooseUptoSaid : Prop := castLooseUptoRow.holds Tryz.pinned (OpenSpec.upto castLooseSpec)

/-- 'sherdlaw13.FitAnchor', WHERE WHAT IT READS IS OF BULK AT MOST 1048576: true; the input reads as it did. -/
def fitAnchorUptoRow : OpenClaim := { program := "ytefjhgcndhepeaagreat", sum := "76d053c27b28311c3502ae807f76bf369205dea4e312a578207476fc54c22499", func := "sherd/sherdlaw13.FitAnchor", spec := "fitAnchor", unfollowed := true, recurses := true, apart := false, narrowed := true }
def FitAnchorUptoSaid : Prop := fitAnchorUptoRow.holds Tryz.pinned (OpenSpec.upto fitAnchorSpec)

/-- 'sherdlaw13.FitFind', WHERE WHAT IT READS IS OF BULK AT MOST 1048576: true; the input reads as it did. -/
def fitFindUptoRow : OpenClaim := { program := "ytefjhgcndhepeaagreat", sum := "76d053c27b28311c3502ae807f76bf369205dea4e312a578207476fc54c22499", func := "sherd/sherdlaw13.FitFind", spec := "fitFind", unfollowed := true, recurses := true, apart := false, narrowed := true }
def FitFindUptoSaid : Prop := fitFindUptoRow.holds Tryz.pinned (OpenSpec.upto fitFindSpec)

/-- 'sherdlaw13.FitExact', WHERE WHAT IT READS IS OF BULK AT MOST 1048576: true; the input reads as it did. -/
def fitExactUptoRow : OpenClaim := { program := "ytefjhgcndhepeaagreat", sum := "76d053c27b28311c3502ae807f76bf369205dea4e312a578207476fc54c22499", func := "sherd/sherdlaw13.FitExact", spec := "fitExact", unfollowed := true, recurses := true, apart := false, narrowed := true }
def FitExactUptoSaid : Prop := fitExactUptoRow.holds Tryz.pinned (OpenSpec.upto fitExactSpec)

/-- 'sherdlaw13.FitChecks', WHERE WHAT IT READS IS OF BULK AT MOST 1048576: true; the input reads as it did. -/
def fitChecksUptoRow : OpenClaim := { program := "ytefjhgcndhepeaagreat", sum := "76d053c27b28311c3502ae807f76bf369205dea4e312a578207476fc54c22499", func := "sherd/sherdlaw13.FitChecks", spec := "fitChecks", unfollowed := true, recurses := true, apart := false, narrowed := true }
def FitChecksUptoSaid : Prop := fitChecksUptoRow.holds Tryz.pinned (OpenSpec.upto fitChecksSpec)

/-- 'sherdlaw13.FitFlip', WHERE WHAT IT READS IS OF BULK AT MOST 1048576: true; the input reads as it did. -/
def fitFlipUptoRow : OpenClaim := { program := "ytefjhgcndhepeaagreat", sum := "76d053c27b28311c3502ae807f76bf369205dea4e312a578207476fc54c22499", func := "sherd/sherdlaw13.FitFlip", spec := "fitFlip", unfollowed := true, recurses := true, apart := false, narrowed := true }
def FitFlipUptoSaid : Prop := fitFlipUptoRow.holds Tryz.pinned (OpenSpec.upto fitFlipSpec)

/-- 'sherdlaw13.FitBroken', WHERE WHAT IT READS IS OF BULK AT MOST 1048576: true; the input reads as it did. -/
def fitBrokenUptoRow : OpenClaim := { program := "ytefjhgcndhepeaagreat", sum := "76d053c27b28311c3502ae807f76bf369205dea4e312a578207476fc54c22499", func := "sherd/sherdlaw13.FitBroken", spec := "fitBroken", unfollowed := true, recurses := true, apart := false, narrowed := true }
def FitBrokenUptoSaid : Prop := fitBrokenUptoRow.holds Tryz.pinned (OpenSpec.upto fitBrokenSpec)

/-- 'sherdlaw36.CastStands', WHERE WHAT IT READS IS OF BULK AT MOST 1048576: true; the input reads as it did. -/
def castStandsUptoRow : OpenClaim := { program := "ytefjhgcndhepeaagreat", sum := "76d053c27b28311c3502ae807f76bf369205dea4e312a578207476fc54c22499", func := "sherd/sherdlaw36.CastStands", spec := "castStands", unfollowed := true, recurses := true, apart := false, narrowed := true }
def CastStandsUptoSaid : Prop := castStandsUptoRow.holds Tryz.pinned (OpenSpec.upto castStandsSpec)

/-- 'sherdlaw36.CastSettled', WHERE WHAT IT READS IS OF BULK AT MOST 1048576: true; the input reads as it did. -/
def castSettledUptoRow : OpenClaim := { program := "ytefjhgcndhepeaagreat", sum := "76d053c27b28311c3502ae807f76bf369205dea4e312a578207476fc54c22499", func := "sherd/sherdlaw36.CastSettled", spec := "castSettled", unfollowed := true, recurses := true, apart := false, narrowed := true }
def CastSettledUptoSaid : Prop := castSettledUptoRow.holds Tryz.pinned (OpenSpec.upto castSettledSpec)

end Rows
end Go.Proofs.YtefjhgcndhepeaaGreat
