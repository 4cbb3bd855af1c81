/- Contracts of functions of this chapter, for every argument that fits, and what they need. -/
import Derived.Test.YtlhlhpgcjjhjkaaG1
set_option linter.unusedSimpArgs false
set_option linter.unusedVariables false
namespace Go.Ab.G
open Go Go.RowKit Go.Proofs
noncomputable section
set_option maxRecDepth 10000
set_option maxHeartbeats 2000000
set_option linter.unusedSimpArgs false
set_option linter.unusedVariables false
open Classical

/-! ### Lists of nodes -/
def stepR (l : List Int) (n : Nat) (i : Nat) : Prop := 0 ≤ l.getD i 0 ∧ l.getD i 0 < n ∧ (0 < i → l.getD (i - 1) 0 < l.getD i 0)
theorem rising_iff (l : List Int) (n : Nat) : rising l n ↔ ∀ i, i < l.length → stepR l n i := Iff.rfl
def lastF (l : List Int) (j : Nat) : Int := if j = 0 then -1 else l.getD (j - 1) 0
theorem lastF_succ (l : List Int) (j : Nat) : lastF l (j + 1) = l.getD j 0 := by unfold lastF; simp
theorem stepR_iff (l : List Int) (n j : Nat) (h : ∀ i, i < j → stepR l n i) : stepR l n j ↔ (lastF l j < l.getD j 0 ∧ l.getD j 0 < n) := by
  unfold stepR lastF
  by_cases h0 : j = 0
  · subst h0; simp; omega
  · rw [if_neg h0]
    have h1 := (h (j - 1) (by omega)).1
    constructor
    · rintro ⟨a, b, c⟩; exact ⟨c (by omega), b⟩
    · rintro ⟨a, b⟩; exact ⟨by omega, b, fun _ => a⟩

theorem rising_fn (l : List Int) (n : Nat) (hl : l.length < 1048576) : Fn Try.prog 34 [ints l, I n] (.bool (decide (rising l n))) := by
  refine Fn.intro (fn := Try.f34) Try.call34 Try.func34 rfl mixed 8 [8, 9, 10] [] [] (by kernel_rfl) (Nat.le_of_ble_eq_true rfl) (by simp [settled_ints, settled_I, settled_fn0, settled_intss, settled_bool, settled_nil, settled_gmA]) (vc_soundN 1000 ?_); simp (config := { maxSteps := 2000000 }) only [AS.start, ↓wPre, wPost, wFast, Nat.zero_add, Nat.add_zero, Nat.zero_lt_succ, Nat.min_self, Nat.zero_min, Nat.min_zero, Nat.sub_zero, Nat.zero_mul, Int.le_refl, Nat.le_refl, Nat.lt_irrefl, Nat.mul_one, Bool.false_eq_true, Bool.true_eq_false, decide_true, decide_false, decide_eq_true_eq, decide_eq_false_iff_not, Bool.not_true, Bool.not_false, Bool.not_eq_true', Bool.not_eq_false', Bool.and_true, Bool.true_and, Bool.false_and, beq_self_eq_true, ite_true, ite_false, true_and, and_true, false_and, and_false, not_true_eq_false, not_false_eq_true, false_implies, true_implies, implies_true, eq_self, ne_eq, or_true, true_or, or_false, false_or, Bool.or_false, Bool.or_true, Bool.false_or, Bool.true_or, Int.natCast_nonneg, Int.ofNat_lt, Int.ofNat_le, Int.ofNat_inj, Int.ofNat_zero, ↓reduceIte, reduceIte, Nat.reducePow, Nat.reduceLT, Nat.reduceLeDiff, Nat.reduceEqDiff, Nat.reduceAdd, Nat.reduceMul, Nat.reduceSub, Nat.reduceBEq, reduceCtorEq, sl1, wFacts, gmA]
  refine run_loop (fun j : Nat => ⟨8, [8, 9, 10], [ints l, I n, .any, .any, .any, I (lastF l j), .any, .any], [(8, ints l), (9, I l.length), (10, I j)], []⟩) (fun j => j ≤ l.length ∧ ∀ i, i < j → stepR l n i) (fun j => l.length - j) 0 ⟨by omega, by omega⟩
    (sub_mk rfl (by simp [subL, ints, sl1, I, lastF]) (by simp [subT, look, ints, sl1, I]) rfl) ?_
  rintro j ⟨hj, hinv⟩ next
  have w1 := wj j (by omega)
  refine vc_soundN 1000 ?_
  simp only [w1, ↓wPre, wPost, wFast, Nat.zero_add, Nat.add_zero, Nat.zero_lt_succ, Nat.min_self, Nat.zero_min, Nat.min_zero, Nat.sub_zero, Nat.zero_mul, Int.le_refl, Nat.le_refl, Nat.lt_irrefl, Nat.mul_one, Bool.false_eq_true, Bool.true_eq_false, decide_true, decide_false, decide_eq_true_eq, decide_eq_false_iff_not, Bool.not_true, Bool.not_false, Bool.not_eq_true', Bool.not_eq_false', Bool.and_true, Bool.true_and, Bool.false_and, beq_self_eq_true, ite_true, ite_false, true_and, and_true, false_and, and_false, not_true_eq_false, not_false_eq_true, false_implies, true_implies, implies_true, eq_self, ne_eq, or_true, true_or, or_false, false_or, Bool.or_false, Bool.or_true, Bool.false_or, Bool.true_or, Int.natCast_nonneg, Int.ofNat_lt, Int.ofNat_le, Int.ofNat_inj, Int.ofNat_zero, ↓reduceIte, reduceIte, Nat.reducePow, Nat.reduceLT, Nat.reduceLeDiff, Nat.reduceEqDiff, Nat.reduceAdd, Nat.reduceMul, Nat.reduceSub, Nat.reduceBEq, reduceCtorEq, sl1, wFacts, gmA]
  have bad : j < l.length → ¬ stepR l n j → (AV.bool false) = .bool (decide (rising l n)) := fun h hs => by rw [decide_eq_false fun hr : rising l n => hs (hr j h)]
  have hst := stepR_iff l n j hinv
  refine ⟨fun h => ⟨h, h, fun h1 => ret1E rfl rfl (settled_bool _) (bad h ?_), fun h1 => ⟨fun h2 => ret1E rfl rfl (settled_bool _) (bad h ?_), fun h2 => next (j + 1) _ ⟨by omega, fun i hi => ?_⟩ (by omega) (sub_mk rfl ?_ ?_ rfl)⟩⟩, fun h => ret1E (v := .bool true) rfl rfl (settled_bool _) ?_⟩
  · rw [hst]; omega
  · rw [hst]; omega
  · by_cases e : i = j
    · rw [e, hst]; omega
    · exact hinv i (by omega)
  · simp [subL, ints, sl1, I, lastF_succ]
  · simp [subT, look, ints, sl1, I]
  · have : rising l n := fun i hi => hinv i (by omega)
    rw [decide_eq_true this]

theorem rrising_fn (l : List Int) (n : Nat) (hl : l.length < 1048576) : Fn Try.prog 38 [ints l, I n] (.bool (decide (rising l n))) := by
  refine Fn.intro (fn := Try.f38) Try.call38 Try.func38 rfl mixed 6 [] [] [] (by kernel_rfl) (Nat.le_of_ble_eq_true rfl) (by simp [settled_ints, settled_I, settled_fn0, settled_intss, settled_bool, settled_nil, settled_gmA]) (vc_soundN 1000 ?_); simp (config := { maxSteps := 2000000 }) only [AS.start, ↓wPre, wPost, wFast, Nat.zero_add, Nat.add_zero, Nat.zero_lt_succ, Nat.min_self, Nat.zero_min, Nat.min_zero, Nat.sub_zero, Nat.zero_mul, Int.le_refl, Nat.le_refl, Nat.lt_irrefl, Nat.mul_one, Bool.false_eq_true, Bool.true_eq_false, decide_true, decide_false, decide_eq_true_eq, decide_eq_false_iff_not, Bool.not_true, Bool.not_false, Bool.not_eq_true', Bool.not_eq_false', Bool.and_true, Bool.true_and, Bool.false_and, beq_self_eq_true, ite_true, ite_false, true_and, and_true, false_and, and_false, not_true_eq_false, not_false_eq_true, false_implies, true_implies, implies_true, eq_self, ne_eq, or_true, true_or, or_false, false_or, Bool.or_false, Bool.or_true, Bool.false_or, Bool.true_or, Int.natCast_nonneg, Int.ofNat_lt, Int.ofNat_le, Int.ofNat_inj, Int.ofNat_zero, ↓reduceIte, reduceIte, Nat.reducePow, Nat.reduceLT, Nat.reduceLeDiff, Nat.reduceEqDiff, Nat.reduceAdd, Nat.reduceMul, Nat.reduceSub, Nat.reduceBEq, reduceCtorEq, sl1, wFacts, gmA]
  refine run_loop (fun j : Nat => ⟨6, [], [ints l, I n, .any, .any, .any, I j], [], []⟩) (fun j => j ≤ l.length ∧ ∀ i, i < j → stepR l n i) (fun j => l.length - j) 0 ⟨by omega, by omega⟩
    (sub_mk rfl (by simp [subL, ints, sl1, I]) (by simp [subT, look, ints, sl1, I]) rfl) ?_
  rintro j ⟨hj, hinv⟩ next
  have w1 := wj j (by omega)
  have w2 : (if IntKind.i64.wrap ((j : Int) - 1) < 0 then 0 else IntKind.i64.wrap ((j : Int) - 1)) = ((j - 1 : Nat) : Int) := by rw [IntKind.wrap_i64]; omega
  refine vc_soundN 1000 ?_
  simp only [w1, w2, ↓wPre, wPost, wFast, Nat.zero_add, Nat.add_zero, Nat.zero_lt_succ, Nat.min_self, Nat.zero_min, Nat.min_zero, Nat.sub_zero, Nat.zero_mul, Int.le_refl, Nat.le_refl, Nat.lt_irrefl, Nat.mul_one, Bool.false_eq_true, Bool.true_eq_false, decide_true, decide_false, decide_eq_true_eq, decide_eq_false_iff_not, Bool.not_true, Bool.not_false, Bool.not_eq_true', Bool.not_eq_false', Bool.and_true, Bool.true_and, Bool.false_and, beq_self_eq_true, ite_true, ite_false, true_and, and_true, false_and, and_false, not_true_eq_false, not_false_eq_true, false_implies, true_implies, implies_true, eq_self, ne_eq, or_true, true_or, or_false, false_or, Bool.or_false, Bool.or_true, Bool.false_or, Bool.true_or, Int.natCast_nonneg, Int.ofNat_lt, Int.ofNat_le, Int.ofNat_inj, Int.ofNat_zero, ↓reduceIte, reduceIte, Nat.reducePow, Nat.reduceLT, Nat.reduceLeDiff, Nat.reduceEqDiff, Nat.reduceAdd, Nat.reduceMul, Nat.reduceSub, Nat.reduceBEq, reduceCtorEq, sl1, wFacts, gmA]
  have bad : j < l.length → ¬ stepR l n j → (AV.bool false) = .bool (decide (rising l n)) := fun h hs => by rw [decide_eq_false fun hr : rising l n => hs (hr j h)]
  have good : stepR l n j → ∀ i, i < j + 1 → stepR l n i := fun h i hi => by
    by_cases e : i = j
    · rw [e]; exact h
    · exact hinv i (by omega)
  refine ⟨fun h => ⟨h, h, fun h1 => ret1E rfl rfl (settled_bool _) (bad h ?_), fun h1 => ⟨h, h, fun h2 => ret1E rfl rfl (settled_bool _) (bad h ?_), fun h2 =>
    ⟨fun h3 => ⟨h, h, by omega, by omega, fun h4 => ret1E rfl rfl (settled_bool _) (bad h ?_), fun h4 => next (j + 1) _ ⟨by omega, good ?_⟩ (by omega) (sub_mk rfl ?_ ?_ rfl)⟩, fun h3 => next (j + 1) _ ⟨by omega, good ?_⟩ (by omega) (sub_mk rfl ?_ ?_ rfl)⟩⟩⟩, fun h => ret1E (v := .bool true) rfl rfl (settled_bool _) ?_⟩
  · unfold stepR; omega
  · unfold stepR; omega
  · unfold stepR; omega
  · unfold stepR; omega
  · simp [subL, ints, sl1, I]
  · simp [subT, look, ints, sl1, I]
  · unfold stepR; omega
  · simp [subL, ints, sl1, I]
  · simp [subT, look, ints, sl1, I]
  · have : rising l n := fun i hi => hinv i (by omega)
    rw [decide_eq_true this]
end
end Go.Ab.G
