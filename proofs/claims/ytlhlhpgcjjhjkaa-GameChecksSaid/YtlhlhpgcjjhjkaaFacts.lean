/- Contracts of functions of this chapter, for every argument that fits, and what they need. -/
import Derived.Test.YtlhlhpgcjjhjkaaRows
import Derived.KernelRfl
import Derived.Test.YtlhlhpgcjjhjkaaAb4
set_option linter.unusedSimpArgs false
set_option linter.unusedVariables false
namespace Go.Ab.G
open Go Go.RowKit Go.Proofs
theorem ldk3 : ldk Try.prog 3 = some none := by kernel_rfl
theorem tsize3 : tsize Try.prog 3 = some 1 := by kernel_rfl
theorem ikd3 : ikd Try.prog 3 = some .i64 := by kernel_rfl
theorem zeroL3 : zeroL Try.prog 3 = some [.int .i64 0] := by kernel_rfl
theorem zeroV3 : zeroV Try.prog 3 = some (.int .i64 0) := by kernel_rfl
theorem ldk4 : ldk Try.prog 4 = some none := by kernel_rfl
theorem tsize4 : tsize Try.prog 4 = some 1 := by kernel_rfl
theorem boolT4 : boolT Try.prog 4 = true := by kernel_rfl
theorem zeroL4 : zeroL Try.prog 4 = some [.bool false] := by kernel_rfl
theorem zeroV4 : zeroV Try.prog 4 = some (.bool false) := by kernel_rfl
theorem ldk17 : ldk Try.prog 17 = some none := by kernel_rfl
theorem tsize17 : tsize Try.prog 17 = some 1 := by kernel_rfl
theorem ptrT17 : ptrT Try.prog 17 = true := by kernel_rfl
theorem zeroL17 : zeroL Try.prog 17 = some [.nil] := by kernel_rfl
theorem zeroV17 : zeroV Try.prog 17 = some (.nil) := by kernel_rfl
theorem ldk18 : ldk Try.prog 18 = some (some 1) := by kernel_rfl
theorem tsize18 : tsize Try.prog 18 = some 1 := by kernel_rfl
theorem fld18_0 : fld Try.prog 18 0 = some (0, 1, none) := by kernel_rfl
theorem bpl18_0 : bldPl Try.prog 18 0 = some (0, 1) := by kernel_rfl
theorem bok18 : bldOk Try.prog 18 = true := by kernel_rfl
theorem zeroL18 : zeroL Try.prog 18 = some [.nil] := by kernel_rfl
theorem zeroV18 : zeroV Try.prog 18 = some (.agg [.nil]) := by kernel_rfl
theorem ldk22 : ldk Try.prog 22 = some none := by kernel_rfl
theorem tsize22 : tsize Try.prog 22 = some 1 := by kernel_rfl
theorem elm22 : elm Try.prog 22 = some (3, 1, 8) := by kernel_rfl
theorem zeroL22 : zeroL Try.prog 22 = some [.sl 0 0 (fun _ => .any) true] := by kernel_rfl
theorem zeroV22 : zeroV Try.prog 22 = some (.sl 0 0 (fun _ => .any) true) := by kernel_rfl
theorem ldk23 : ldk Try.prog 23 = some none := by kernel_rfl
theorem tsize23 : tsize Try.prog 23 = some 1 := by kernel_rfl
theorem elm23 : elm Try.prog 23 = some (22, 1, 24) := by kernel_rfl
theorem zeroL23 : zeroL Try.prog 23 = some [.sl 0 0 (fun _ => .any) true] := by kernel_rfl
theorem zeroV23 : zeroV Try.prog 23 = some (.sl 0 0 (fun _ => .any) true) := by kernel_rfl
theorem ldk25 : ldk Try.prog 25 = some (some 4) := by kernel_rfl
theorem tsize25 : tsize Try.prog 25 = some 4 := by kernel_rfl
theorem fld25_0 : fld Try.prog 25 0 = some (0, 1, none) := by kernel_rfl
theorem bpl25_0 : bldPl Try.prog 25 0 = some (0, 1) := by kernel_rfl
theorem fld25_1 : fld Try.prog 25 1 = some (1, 1, none) := by kernel_rfl
theorem bpl25_1 : bldPl Try.prog 25 1 = some (1, 1) := by kernel_rfl
theorem fld25_2 : fld Try.prog 25 2 = some (2, 1, none) := by kernel_rfl
theorem bpl25_2 : bldPl Try.prog 25 2 = some (2, 1) := by kernel_rfl
theorem fld25_3 : fld Try.prog 25 3 = some (3, 1, none) := by kernel_rfl
theorem bpl25_3 : bldPl Try.prog 25 3 = some (3, 1) := by kernel_rfl
theorem bok25 : bldOk Try.prog 25 = true := by kernel_rfl
theorem zeroL25 : zeroL Try.prog 25 = some [.sl 0 0 (fun _ => .any) true, .sl 0 0 (fun _ => .any) true, .sl 0 0 (fun _ => .any) true, .sl 0 0 (fun _ => .any) true] := by kernel_rfl
theorem zeroV25 : zeroV Try.prog 25 = some (.agg [.sl 0 0 (fun _ => .any) true, .sl 0 0 (fun _ => .any) true, .sl 0 0 (fun _ => .any) true, .sl 0 0 (fun _ => .any) true]) := by kernel_rfl
theorem ldk28 : ldk Try.prog 28 = some none := by kernel_rfl
theorem tsize28 : tsize Try.prog 28 = some 1 := by kernel_rfl
theorem elm28 : elm Try.prog 28 = some (25, 4, 96) := by kernel_rfl
theorem zeroL28 : zeroL Try.prog 28 = some [.sl 0 0 (fun _ => .any) true] := by kernel_rfl
theorem zeroV28 : zeroV Try.prog 28 = some (.sl 0 0 (fun _ => .any) true) := by kernel_rfl
theorem ldk29 : ldk Try.prog 29 = some none := by kernel_rfl
theorem tsize29 : tsize Try.prog 29 = some 1 := by kernel_rfl
theorem ikd29 : ikd Try.prog 29 = some .i64 := by kernel_rfl
theorem zeroL29 : zeroL Try.prog 29 = some [.int .i64 0] := by kernel_rfl
theorem zeroV29 : zeroV Try.prog 29 = some (.int .i64 0) := by kernel_rfl
theorem ldk46 : ldk Try.prog 46 = some none := by kernel_rfl
theorem tsize46 : tsize Try.prog 46 = some 1 := by kernel_rfl
theorem mapT46 : mapT Try.prog 46 = some (3, 4) := by kernel_rfl
theorem zeroL46 : zeroL Try.prog 46 = some [.nilmap] := by kernel_rfl
theorem zeroV46 : zeroV Try.prog 46 = some (.nilmap) := by kernel_rfl
theorem ldk48 : ldk Try.prog 48 = some (some 6) := by kernel_rfl
theorem tsize48 : tsize Try.prog 48 = some 6 := by kernel_rfl
theorem fld48_0 : fld Try.prog 48 0 = some (0, 4, some 4) := by kernel_rfl
theorem bpl48_0 : bldPl Try.prog 48 0 = some (0, 4) := by kernel_rfl
theorem fld48_1 : fld Try.prog 48 1 = some (4, 1, none) := by kernel_rfl
theorem bpl48_1 : bldPl Try.prog 48 1 = some (4, 1) := by kernel_rfl
theorem fld48_2 : fld Try.prog 48 2 = some (5, 1, none) := by kernel_rfl
theorem bpl48_2 : bldPl Try.prog 48 2 = some (5, 1) := by kernel_rfl
theorem bok48 : bldOk Try.prog 48 = true := by kernel_rfl
theorem zeroL48 : zeroL Try.prog 48 = some [.sl 0 0 (fun _ => .any) true, .sl 0 0 (fun _ => .any) true, .sl 0 0 (fun _ => .any) true, .sl 0 0 (fun _ => .any) true, .nilmap, .nilmap] := by kernel_rfl
theorem zeroV48 : zeroV Try.prog 48 = some (.agg [.sl 0 0 (fun _ => .any) true, .sl 0 0 (fun _ => .any) true, .sl 0 0 (fun _ => .any) true, .sl 0 0 (fun _ => .any) true, .nilmap, .nilmap]) := by kernel_rfl
theorem ldk52 : ldk Try.prog 52 = some none := by kernel_rfl
theorem tsize52 : tsize Try.prog 52 = some 1 := by kernel_rfl
theorem zeroL52 : zeroL Try.prog 52 = some [.nilfn] := by kernel_rfl
theorem zeroV52 : zeroV Try.prog 52 = some (.nilfn) := by kernel_rfl
theorem mixed : Try.prog.follows .mixedOrders = true := by kernel_rfl
set_option linter.defProp false in
def wFacts := And.intro @ldk3 (And.intro @tsize3 (And.intro @ikd3 (And.intro @zeroL3 (And.intro @zeroV3 (And.intro @ldk4 (And.intro @tsize4 (And.intro @boolT4 (And.intro @zeroL4 (And.intro @zeroV4 (And.intro @ldk17 (And.intro @tsize17 (And.intro @ptrT17 (And.intro @zeroL17 (And.intro @zeroV17 (And.intro @ldk18 (And.intro @tsize18 (And.intro @fld18_0 (And.intro @bpl18_0 (And.intro @bok18 (And.intro @zeroL18 (And.intro @zeroV18 (And.intro @ldk22 (And.intro @tsize22 (And.intro @elm22 (And.intro @zeroL22 (And.intro @zeroV22 (And.intro @ldk23 (And.intro @tsize23 (And.intro @elm23 (And.intro @zeroL23 (And.intro @zeroV23 (And.intro @ldk25 (And.intro @tsize25 (And.intro @fld25_0 (And.intro @bpl25_0 (And.intro @fld25_1 (And.intro @bpl25_1 (And.intro @fld25_2 (And.intro @bpl25_2 (And.intro @fld25_3 (And.intro @bpl25_3 (And.intro @bok25 (And.intro @zeroL25 (And.intro @zeroV25 (And.intro @ldk28 (And.intro @tsize28 (And.intro @elm28 (And.intro @zeroL28 (And.intro @zeroV28 (And.intro @ldk29 (And.intro @tsize29 (And.intro @ikd29 (And.intro @zeroL29 (And.intro @zeroV29 (And.intro @ldk46 (And.intro @tsize46 (And.intro @mapT46 (And.intro @zeroL46 (And.intro @zeroV46 (And.intro @ldk48 (And.intro @tsize48 (And.intro @fld48_0 (And.intro @bpl48_0 (And.intro @fld48_1 (And.intro @bpl48_1 (And.intro @fld48_2 (And.intro @bpl48_2 (And.intro @bok48 (And.intro @zeroL48 (And.intro @zeroV48 (And.intro @ldk52 (And.intro @tsize52 (And.intro @zeroL52 (@zeroV52))))))))))))))))))))))))))))))))))))))))))))))))))))))))))))))))))))))))))
end Go.Ab.G
