/- Contracts of functions of this chapter, for every argument that fits, and what they need. -/
import Derived.Test.YtlhlhpgcjjhjkaaG4
set_option linter.unusedSimpArgs false
set_option linter.unusedVariables false
namespace Go.Ab.G
open Go Go.RowKit Go.Proofs
noncomputable section
set_option maxRecDepth 10000
set_option maxHeartbeats 2000000
set_option linter.unusedSimpArgs false
set_option linter.unusedVariables false
open Classical

/-! ### The document's game -/
def exG : Gm := ⟨[0, 1, 1, 0, 0], [[1, 2], [3, 4], [3], [], [0]], [3], []⟩
theorem weak_emp (f : Nat → AV) (t : Bool) : Weak (.sl 0 0 f t) (ints []) := weak_slW rfl (Nat.le_refl _) fun j hj => by exact absurd hj (Nat.not_lt_zero j)
theorem weak_ints5 : Weak (.sl 5 5 (ofL [.sl 2 2 (ofL [.int .i64 1, .int .i64 2]) false, .sl 2 2 (ofL [.int .i64 3, .int .i64 4]) false, .sl 1 1 (ofL [.int .i64 3]) false, .sl 0 0 (fun _ => .any) false, .sl 1 1 (ofL [.int .i64 0]) false]) false) (intss exG.nxt) := by
  refine weak_slW rfl (Nat.le_refl _) fun j hj => ?_
  have hj' : j < 5 := hj
  rcases (show j = 0 ∨ j = 1 ∨ j = 2 ∨ j = 3 ∨ j = 4 by omega) with rfl | rfl | rfl | rfl | rfl
  · exact weak_lit [1, 2] _
  · exact weak_lit [3, 4] _
  · exact weak_lit [3] _
  · exact weak_emp _ _
  · exact weak_lit [0] _
theorem example_fn : Fn Try.prog 39 [] (gmA exG) := by
  refine Fn.intro (fn := Try.f39) Try.call39 Try.func39 rfl mixed 1 [] [] [] (by kernel_rfl) (Nat.le_of_ble_eq_true rfl) (by simp [settled_ints, settled_I, settled_fn0, settled_intss, settled_bool, settled_nil, settled_gmA]) (vc_soundN 1000 ?_); simp (config := { maxSteps := 2000000 }) only [AS.start, ↓wPre, wPost, wFast, Nat.zero_add, Nat.add_zero, Nat.zero_lt_succ, Nat.min_self, Nat.zero_min, Nat.min_zero, Nat.sub_zero, Nat.zero_mul, Int.le_refl, Nat.le_refl, Nat.lt_irrefl, Nat.mul_one, Bool.false_eq_true, Bool.true_eq_false, decide_true, decide_false, decide_eq_true_eq, decide_eq_false_iff_not, Bool.not_true, Bool.not_false, Bool.not_eq_true', Bool.not_eq_false', Bool.and_true, Bool.true_and, Bool.false_and, beq_self_eq_true, ite_true, ite_false, true_and, and_true, false_and, and_false, not_true_eq_false, not_false_eq_true, false_implies, true_implies, implies_true, eq_self, ne_eq, or_true, true_or, or_false, false_or, Bool.or_false, Bool.or_true, Bool.false_or, Bool.true_or, Int.natCast_nonneg, Int.ofNat_lt, Int.ofNat_le, Int.ofNat_inj, Int.ofNat_zero, ↓reduceIte, reduceIte, Nat.reducePow, Nat.reduceLT, Nat.reduceLeDiff, Nat.reduceEqDiff, Nat.reduceAdd, Nat.reduceMul, Nat.reduceSub, Nat.reduceBEq, reduceCtorEq, sl1, wFacts, gmA]
  refine retCellP (v := .agg [.sl 5 5 (ofL [.int .i64 0, .int .i64 1, .int .i64 1, .int .i64 0, .int .i64 0]) false, .sl 5 5 (ofL [.sl 2 2 (ofL [.int .i64 1, .int .i64 2]) false, .sl 2 2 (ofL [.int .i64 3, .int .i64 4]) false, .sl 1 1 (ofL [.int .i64 3]) false, .sl 0 0 (fun _ => .any) false, .sl 1 1 (ofL [.int .i64 0]) false]) false, .sl 1 1 (ofL [.int .i64 3]) false, .sl 0 0 (fun _ => .any) false]) rfl ?_ ?_
  · simp [AS.get, aload, ldk25, rd, cellsFrom, ofL, oif_true]
  · exact sees_agg ⟨sees_of_weak (settled_ints _) (weak_lit [0, 1, 1, 0, 0] _), sees_of_weak (settled_intss _) weak_ints5, sees_of_weak (settled_ints _) (weak_lit [3] _), sees_of_weak (settled_ints _) (weak_emp _ _), trivial⟩
end
end Go.Ab.G
