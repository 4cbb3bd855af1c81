/- Contracts of functions of this chapter, for every argument that fits, and what they need. -/
import Derived.Test.YtfjcglohkajbhaaRows
import Derived.KernelRfl
import Derived.Test.YtfjcglohkajbhaaAb4
set_option linter.unusedSimpArgs false
set_option linter.unusedVariables false
namespace Go.Ab.Q
open Go Go.RowKit Go.Proofs
theorem ldk3 : ldk Try.prog 3 = some none := by kernel_rfl
theorem tsize3 : tsize Try.prog 3 = some 1 := by kernel_rfl
theorem ikd3 : ikd Try.prog 3 = some .i64 := by kernel_rfl
theorem zeroL3 : zeroL Try.prog 3 = some [.int .i64 0] := by kernel_rfl
theorem zeroV3 : zeroV Try.prog 3 = some (.int .i64 0) := by kernel_rfl
theorem ldk4 : ldk Try.prog 4 = some none := by kernel_rfl
theorem tsize4 : tsize Try.prog 4 = some 1 := by kernel_rfl
theorem boolT4 : boolT Try.prog 4 = true := by kernel_rfl
theorem zeroL4 : zeroL Try.prog 4 = some [.bool false] := by kernel_rfl
theorem zeroV4 : zeroV Try.prog 4 = some (.bool false) := by kernel_rfl
theorem ldk9 : ldk Try.prog 9 = some none := by kernel_rfl
theorem tsize9 : tsize Try.prog 9 = some 1 := by kernel_rfl
theorem ldk17 : ldk Try.prog 17 = some none := by kernel_rfl
theorem tsize17 : tsize Try.prog 17 = some 1 := by kernel_rfl
theorem ptrT17 : ptrT Try.prog 17 = true := by kernel_rfl
theorem zeroL17 : zeroL Try.prog 17 = some [.nil] := by kernel_rfl
theorem zeroV17 : zeroV Try.prog 17 = some (.nil) := by kernel_rfl
theorem ldk18 : ldk Try.prog 18 = some (some 1) := by kernel_rfl
theorem tsize18 : tsize Try.prog 18 = some 1 := by kernel_rfl
theorem fld18_0 : fld Try.prog 18 0 = some (0, 1, none) := by kernel_rfl
theorem bpl18_0 : bldPl Try.prog 18 0 = some (0, 1) := by kernel_rfl
theorem bok18 : bldOk Try.prog 18 = true := by kernel_rfl
theorem zeroL18 : zeroL Try.prog 18 = some [.nil] := by kernel_rfl
theorem zeroV18 : zeroV Try.prog 18 = some (.agg [.nil]) := by kernel_rfl
theorem ldk20 : ldk Try.prog 20 = some none := by kernel_rfl
theorem tsize20 : tsize Try.prog 20 = some 1 := by kernel_rfl
theorem zeroL20 : zeroL Try.prog 20 = some [.nilif] := by kernel_rfl
theorem zeroV20 : zeroV Try.prog 20 = some (.nilif) := by kernel_rfl
theorem ldk22 : ldk Try.prog 22 = some none := by kernel_rfl
theorem tsize22 : tsize Try.prog 22 = some 1 := by kernel_rfl
theorem elm22 : elm Try.prog 22 = some (3, 1, 8) := by kernel_rfl
theorem zeroL22 : zeroL Try.prog 22 = some [.sl 0 0 (fun _ => .any) true] := by kernel_rfl
theorem zeroV22 : zeroV Try.prog 22 = some (.sl 0 0 (fun _ => .any) true) := by kernel_rfl
theorem ldk23 : ldk Try.prog 23 = some none := by kernel_rfl
theorem tsize23 : tsize Try.prog 23 = some 1 := by kernel_rfl
theorem elm23 : elm Try.prog 23 = some (27, 1, 24) := by kernel_rfl
theorem zeroL23 : zeroL Try.prog 23 = some [.sl 0 0 (fun _ => .any) true] := by kernel_rfl
theorem zeroV23 : zeroV Try.prog 23 = some (.sl 0 0 (fun _ => .any) true) := by kernel_rfl
theorem ldk24 : ldk Try.prog 24 = some none := by kernel_rfl
theorem tsize24 : tsize Try.prog 24 = some 1 := by kernel_rfl
theorem elm24 : elm Try.prog 24 = some (22, 1, 24) := by kernel_rfl
theorem zeroL24 : zeroL Try.prog 24 = some [.sl 0 0 (fun _ => .any) true] := by kernel_rfl
theorem zeroV24 : zeroV Try.prog 24 = some (.sl 0 0 (fun _ => .any) true) := by kernel_rfl
theorem ldk27 : ldk Try.prog 27 = some none := by kernel_rfl
theorem tsize27 : tsize Try.prog 27 = some 1 := by kernel_rfl
theorem elm27 : elm Try.prog 27 = some (58, 1, 8) := by kernel_rfl
theorem zeroL27 : zeroL Try.prog 27 = some [.sl 0 0 (fun _ => .any) true] := by kernel_rfl
theorem zeroV27 : zeroV Try.prog 27 = some (.sl 0 0 (fun _ => .any) true) := by kernel_rfl
theorem ldk28 : ldk Try.prog 28 = some none := by kernel_rfl
theorem tsize28 : tsize Try.prog 28 = some 1 := by kernel_rfl
theorem ikd28 : ikd Try.prog 28 = some .i64 := by kernel_rfl
theorem zeroL28 : zeroL Try.prog 28 = some [.int .i64 0] := by kernel_rfl
theorem zeroV28 : zeroV Try.prog 28 = some (.int .i64 0) := by kernel_rfl
theorem ldk31 : ldk Try.prog 31 = some none := by kernel_rfl
theorem tsize31 : tsize Try.prog 31 = some 1 := by kernel_rfl
theorem ptrT31 : ptrT Try.prog 31 = true := by kernel_rfl
theorem zeroL31 : zeroL Try.prog 31 = some [.nil] := by kernel_rfl
theorem zeroV31 : zeroV Try.prog 31 = some (.nil) := by kernel_rfl
theorem ldk56 : ldk Try.prog 56 = some (some 4) := by kernel_rfl
theorem tsize56 : tsize Try.prog 56 = some 4 := by kernel_rfl
theorem fld56_0 : fld Try.prog 56 0 = some (0, 1, none) := by kernel_rfl
theorem bpl56_0 : bldPl Try.prog 56 0 = some (0, 1) := by kernel_rfl
theorem fld56_1 : fld Try.prog 56 1 = some (1, 1, none) := by kernel_rfl
theorem bpl56_1 : bldPl Try.prog 56 1 = some (1, 1) := by kernel_rfl
theorem fld56_2 : fld Try.prog 56 2 = some (2, 1, none) := by kernel_rfl
theorem bpl56_2 : bldPl Try.prog 56 2 = some (2, 1) := by kernel_rfl
theorem fld56_3 : fld Try.prog 56 3 = some (3, 1, none) := by kernel_rfl
theorem bpl56_3 : bldPl Try.prog 56 3 = some (3, 1) := by kernel_rfl
theorem bok56 : bldOk Try.prog 56 = true := by kernel_rfl
theorem zeroL56 : zeroL Try.prog 56 = some [.int .i64 0, .nil, .nil, .int .i64 0] := by kernel_rfl
theorem zeroV56 : zeroV Try.prog 56 = some (.agg [.int .i64 0, .nil, .nil, .int .i64 0]) := by kernel_rfl
theorem ldk57 : ldk Try.prog 57 = some none := by kernel_rfl
theorem tsize57 : tsize Try.prog 57 = some 1 := by kernel_rfl
theorem elm57 : elm Try.prog 57 = some (31, 1, 8) := by kernel_rfl
theorem zeroL57 : zeroL Try.prog 57 = some [.sl 0 0 (fun _ => .any) true] := by kernel_rfl
theorem zeroV57 : zeroV Try.prog 57 = some (.sl 0 0 (fun _ => .any) true) := by kernel_rfl
theorem ldk58 : ldk Try.prog 58 = some none := by kernel_rfl
theorem tsize58 : tsize Try.prog 58 = some 1 := by kernel_rfl
theorem ikd58 : ikd Try.prog 58 = some .i64 := by kernel_rfl
theorem zeroL58 : zeroL Try.prog 58 = some [.int .i64 0] := by kernel_rfl
theorem zeroV58 : zeroV Try.prog 58 = some (.int .i64 0) := by kernel_rfl
theorem ldk62 : ldk Try.prog 62 = some none := by kernel_rfl
theorem tsize62 : tsize Try.prog 62 = some 1 := by kernel_rfl
theorem mapT62 : mapT Try.prog 62 = some (3, 65) := by kernel_rfl
theorem zeroL62 : zeroL Try.prog 62 = some [.nilmap] := by kernel_rfl
theorem zeroV62 : zeroV Try.prog 62 = some (.nilmap) := by kernel_rfl
theorem ldk63 : ldk Try.prog 63 = some none := by kernel_rfl
theorem tsize63 : tsize Try.prog 63 = some 1 := by kernel_rfl
theorem zeroL63 : zeroL Try.prog 63 = some [.nilfn] := by kernel_rfl
theorem zeroV63 : zeroV Try.prog 63 = some (.nilfn) := by kernel_rfl
theorem ldk65 : ldk Try.prog 65 = some (some 2) := by kernel_rfl
theorem tsize65 : tsize Try.prog 65 = some 2 := by kernel_rfl
theorem fld65_0 : fld Try.prog 65 0 = some (0, 1, none) := by kernel_rfl
theorem bpl65_0 : bldPl Try.prog 65 0 = some (0, 1) := by kernel_rfl
theorem fld65_1 : fld Try.prog 65 1 = some (1, 1, none) := by kernel_rfl
theorem bpl65_1 : bldPl Try.prog 65 1 = some (1, 1) := by kernel_rfl
theorem bok65 : bldOk Try.prog 65 = true := by kernel_rfl
theorem zeroL65 : zeroL Try.prog 65 = some [.nil, .int .i64 0] := by kernel_rfl
theorem zeroV65 : zeroV Try.prog 65 = some (.agg [.nil, .int .i64 0]) := by kernel_rfl
theorem ldk80 : ldk Try.prog 80 = some none := by kernel_rfl
theorem tsize80 : tsize Try.prog 80 = some 1 := by kernel_rfl
theorem zeroL80 : zeroL Try.prog 80 = some [.nilfn] := by kernel_rfl
theorem zeroV80 : zeroV Try.prog 80 = some (.nilfn) := by kernel_rfl
theorem mixed : Try.prog.follows .mixedOrders = true := by kernel_rfl
set_option linter.defProp false in
def wFacts := And.intro @ldk3 (And.intro @tsize3 (And.intro @ikd3 (And.intro @zeroL3 (And.intro @zeroV3 (And.intro @ldk4 (And.intro @tsize4 (And.intro @boolT4 (And.intro @zeroL4 (And.intro @zeroV4 (And.intro @ldk9 (And.intro @tsize9 (And.intro @ldk17 (And.intro @tsize17 (And.intro @ptrT17 (And.intro @zeroL17 (And.intro @zeroV17 (And.intro @ldk18 (And.intro @tsize18 (And.intro @fld18_0 (And.intro @bpl18_0 (And.intro @bok18 (And.intro @zeroL18 (And.intro @zeroV18 (And.intro @ldk20 (And.intro @tsize20 (And.intro @zeroL20 (And.intro @zeroV20 (And.intro @ldk22 (And.intro @tsize22 (And.intro @elm22 (And.intro @zeroL22 (And.intro @zeroV22 (And.intro @ldk23 (And.intro @tsize23 (And.intro @elm23 (And.intro @zeroL23 (And.intro @zeroV23 (And.intro @ldk24 (And.intro @tsize24 (And.intro @elm24 (And.intro @zeroL24 (And.intro @zeroV24 (And.intro @ldk27 (And.intro @tsize27 (And.intro @elm27 (And.intro @zeroL27 (And.intro @zeroV27 (And.intro @ldk28 (And.intro @tsize28 (And.intro @ikd28 (And.intro @zeroL28 (And.intro @zeroV28 (And.intro @ldk31 (And.intro @tsize31 (And.intro @ptrT31 (And.intro @zeroL31 (And.intro @zeroV31 (And.intro @ldk56 (And.intro @tsize56 (And.intro @fld56_0 (And.intro @bpl56_0 (And.intro @fld56_1 (And.intro @bpl56_1 (And.intro @fld56_2 (And.intro @bpl56_2 (And.intro @fld56_3 (And.intro @bpl56_3 (And.intro @bok56 (And.intro @zeroL56 (And.intro @zeroV56 (And.intro @ldk57 (And.intro @tsize57 (And.intro @elm57 (And.intro @zeroL57 (And.intro @zeroV57 (And.intro @ldk58 (And.intro @tsize58 (And.intro @ikd58 (And.intro @zeroL58 (And.intro @zeroV58 (And.intro @ldk62 (And.intro @tsize62 (And.intro @mapT62 (And.intro @zeroL62 (And.intro @zeroV62 (And.intro @ldk63 (And.intro @tsize63 (And.intro @zeroL63 (And.intro @zeroV63 (And.intro @ldk65 (And.intro @tsize65 (And.intro @fld65_0 (And.intro @bpl65_0 (And.intro @fld65_1 (And.intro @bpl65_1 (And.intro @bok65 (And.intro @zeroL65 (And.intro @zeroV65 (And.intro @ldk80 (And.intro @tsize80 (And.intro @zeroL80 (@zeroV80))))))))))))))))))))))))))))))))))))))))))))))))))))))))))))))))))))))))))))))))))))))))))))))))))))))
end Go.Ab.Q
