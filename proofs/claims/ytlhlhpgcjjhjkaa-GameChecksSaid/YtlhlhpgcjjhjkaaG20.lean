/- Contracts of functions of this chapter, for every argument that fits, and what they need. -/
import Derived.Test.YtlhlhpgcjjhjkaaG19
set_option linter.unusedSimpArgs false
set_option linter.unusedVariables false
namespace Go.Ab.G
open Go Go.RowKit Go.Proofs
noncomputable section
set_option maxRecDepth 10000
set_option maxHeartbeats 2000000
set_option linter.unusedSimpArgs false
set_option linter.unusedVariables false
set_option pp.maxSteps 100000
open Classical

theorem playF_len (g : Gm) (C faults : List Int) : ∀ f k made, (playF g C faults f k made).length ≤ f
  | 0, _, _ => Nat.le_refl _
  | f + 1, k, made => by
    rw [playF]
    split
    · simpa using playF_len g C faults f _ _
    · simp
theorem playG_form (g : Gm) (fr : Int) (C faults : List Int) : ∃ a e, playG g fr C faults = .tup [ints a, I e] ∧ a.length < 5000 := by
  unfold playG
  split
  · exact ⟨_, _, rfl, by simp⟩
  · split
    · exact ⟨_, _, rfl, by simp⟩
    · refine ⟨_, _, rfl, ?_⟩
      have := playF_len g C faults 4096 fr.toNat 0
      simp; omega
theorem rsolve_ok (g : Gm) (hs : smallG g) (hv : validF g = 0) : Fn Try.prog 12 [gmA g] (.tup [ints (tab (rk g) g.n), ints (tab (choF g) g.n), I 0]) := by
  have h := rsolve_fn g hs
  rw [if_neg (by rw [hv]; simp)] at h
  exact h
theorem gamePlay_fn (l : List Int) (fr : Int) (C faults : List Int) (ha : all64 l) (hfr : in64 fr) (hC : C.length < 9223372036854775808) (hF : faults.length < 9223372036854775808) (hfa : all64 faults) :
    Fn Try.prog 5 [ints l, I fr, ints C, ints faults] (.bool true) := by
  refine Fn.intro (fn := Try.f5) Try.call5 Try.func5 rfl mixed 23 [] [] [] (by kernel_rfl) (Nat.le_of_ble_eq_true rfl) (by simp [settled_ints, settled_I, settled_fn0, settled_intss, settled_bool, settled_nil, settled_gmA]) (vc_soundN 1000 ?_); simp (config := { maxSteps := 2000000 }) only [AS.start, ↓wPre, wPost, wFast, Nat.zero_add, Nat.add_zero, Nat.zero_lt_succ, Nat.min_self, Nat.zero_min, Nat.min_zero, Nat.sub_zero, Nat.zero_mul, Int.le_refl, Nat.le_refl, Nat.lt_irrefl, Nat.mul_one, Bool.false_eq_true, Bool.true_eq_false, decide_true, decide_false, decide_eq_true_eq, decide_eq_false_iff_not, Bool.not_true, Bool.not_false, Bool.not_eq_true', Bool.not_eq_false', Bool.and_true, Bool.true_and, Bool.false_and, beq_self_eq_true, ite_true, ite_false, true_and, and_true, false_and, and_false, not_true_eq_false, not_false_eq_true, false_implies, true_implies, implies_true, eq_self, ne_eq, or_true, true_or, or_false, false_or, Bool.or_false, Bool.or_true, Bool.false_or, Bool.true_or, Int.natCast_nonneg, Int.ofNat_lt, Int.ofNat_le, Int.ofNat_inj, Int.ofNat_zero, ↓reduceIte, reduceIte, Nat.reducePow, Nat.reduceLT, Nat.reduceLeDiff, Nat.reduceEqDiff, Nat.reduceAdd, Nat.reduceMul, Nat.reduceSub, Nat.reduceBEq, reduceCtorEq, sl1, wFacts, gmA]
  refine call_fn (some_fn l ha) rfl ?_
  have hv := someG_ok l
  have hs := someG_small l
  have hnb := numS_bound l
  have hn := someG_n l
  generalize someG l = g at *
  have hn' : g.own.length = numS l := hn
  simp only [gmA, ↓wPre, wPost, wFast, Nat.zero_add, Nat.add_zero, Nat.zero_lt_succ, Nat.min_self, Nat.zero_min, Nat.min_zero, Nat.sub_zero, Nat.zero_mul, Int.le_refl, Nat.le_refl, Nat.lt_irrefl, Nat.mul_one, Bool.false_eq_true, Bool.true_eq_false, decide_true, decide_false, decide_eq_true_eq, decide_eq_false_iff_not, Bool.not_true, Bool.not_false, Bool.not_eq_true', Bool.not_eq_false', Bool.and_true, Bool.true_and, Bool.false_and, beq_self_eq_true, ite_true, ite_false, true_and, and_true, false_and, and_false, not_true_eq_false, not_false_eq_true, false_implies, true_implies, implies_true, eq_self, ne_eq, or_true, true_or, or_false, false_or, Bool.or_false, Bool.or_true, Bool.false_or, Bool.true_or, Int.natCast_nonneg, Int.ofNat_lt, Int.ofNat_le, Int.ofNat_inj, Int.ofNat_zero, ↓reduceIte, reduceIte, Nat.reducePow, Nat.reduceLT, Nat.reduceLeDiff, Nat.reduceEqDiff, Nat.reduceAdd, Nat.reduceMul, Nat.reduceSub, Nat.reduceBEq, reduceCtorEq, sl1, wFacts, gmA]
  refine call_fn (rsolve_ok g hs hv) rfl ?_
  have hRl : (tab (rk g) g.n).length = g.own.length := tab_len _ _
  have hCl : (tab (choF g) g.n).length = g.own.length := tab_len _ _
  generalize tab (rk g) g.n = R at *
  generalize tab (choF g) g.n = B at *
  simp only [gmA, ↓wPre, wPost, wFast, Nat.zero_add, Nat.add_zero, Nat.zero_lt_succ, Nat.min_self, Nat.zero_min, Nat.min_zero, Nat.sub_zero, Nat.zero_mul, Int.le_refl, Nat.le_refl, Nat.lt_irrefl, Nat.mul_one, Bool.false_eq_true, Bool.true_eq_false, decide_true, decide_false, decide_eq_true_eq, decide_eq_false_iff_not, Bool.not_true, Bool.not_false, Bool.not_eq_true', Bool.not_eq_false', Bool.and_true, Bool.true_and, Bool.false_and, beq_self_eq_true, ite_true, ite_false, true_and, and_true, false_and, and_false, not_true_eq_false, not_false_eq_true, false_implies, true_implies, implies_true, eq_self, ne_eq, or_true, true_or, or_false, false_or, Bool.or_false, Bool.or_true, Bool.false_or, Bool.true_or, Int.natCast_nonneg, Int.ofNat_lt, Int.ofNat_le, Int.ofNat_inj, Int.ofNat_zero, ↓reduceIte, reduceIte, Nat.reducePow, Nat.reduceLT, Nat.reduceLeDiff, Nat.reduceEqDiff, Nat.reduceAdd, Nat.reduceMul, Nat.reduceSub, Nat.reduceBEq, reduceCtorEq, sl1, wFacts, gmA]
  refine run_loop (fun i : Nat => ⟨23, [], [ints l, I fr, ints C, ints faults, .any, .any, .any, .any, .bool false, .ref 0 0 0, .any, .any, .any, intss [C, B], I i, .any, .any, .any, .any, .any, .any, .any, .any], [], [.row 0 4 (ofL (gmL g))]⟩) (fun i => i ≤ 2) (fun i => 2 - i) 0 (by omega)
    ((sub_weak 13 (intss [C, B]) (show 13 < 23 by omega) ?_).trans (sub_mk rfl ?_ ?_ ?_)) ?_
  · exact weak_slW rfl (Nat.le_refl _) fun j hj => by
      rcases (show j = 0 ∨ j = 1 by simp at hj; omega) with rfl | rfl
      · exact Weak.rfl' _
      · exact Weak.rfl' _
  · simp [subL, ints, sl1, I]
  · simp [subT]
  · simp [gmL, ints, intss, sl1]
  intro i hi next
  have w1 := wj i (by omega)
  refine vc_soundN 1000 ?_
  simp (config := { maxSteps := 2000000 }) only [w1, gmL, ↓wPre, wPost, wFast, Nat.zero_add, Nat.add_zero, Nat.zero_lt_succ, Nat.min_self, Nat.zero_min, Nat.min_zero, Nat.sub_zero, Nat.zero_mul, Int.le_refl, Nat.le_refl, Nat.lt_irrefl, Nat.mul_one, Bool.false_eq_true, Bool.true_eq_false, decide_true, decide_false, decide_eq_true_eq, decide_eq_false_iff_not, Bool.not_true, Bool.not_false, Bool.not_eq_true', Bool.not_eq_false', Bool.and_true, Bool.true_and, Bool.false_and, beq_self_eq_true, ite_true, ite_false, true_and, and_true, false_and, and_false, not_true_eq_false, not_false_eq_true, false_implies, true_implies, implies_true, eq_self, ne_eq, or_true, true_or, or_false, false_or, Bool.or_false, Bool.or_true, Bool.false_or, Bool.true_or, Int.natCast_nonneg, Int.ofNat_lt, Int.ofNat_le, Int.ofNat_inj, Int.ofNat_zero, ↓reduceIte, reduceIte, Nat.reducePow, Nat.reduceLT, Nat.reduceLeDiff, Nat.reduceEqDiff, Nat.reduceAdd, Nat.reduceMul, Nat.reduceSub, Nat.reduceBEq, reduceCtorEq, sl1, wFacts, gmA]
  refine ⟨fun hi' => call_fn (around_fn fr g.own.length hfr (by omega)) rfl ?_, fun hi' => ?_⟩
  rotate_left
  · have hpe := play_fn emptyG small_emptyG fr C faults hC hF hfa
    have e : playG emptyG fr C faults = .tup [ints [], I 4] := by
      unfold playG; rw [if_pos (by rw [valid_empty]; simp), valid_empty]
    rw [e] at hpe
    refine call_weak hpe ⟨weak_agg ⟨weak_emp _ _, weak_emps _ _, weak_emp _ _, weak_emp _ _, trivial⟩, Weak.rfl' _, Weak.rfl' _, Weak.rfl' _, trivial⟩ ?_
    simp only [↓wPre, wPost, wFast, Nat.zero_add, Nat.add_zero, Nat.zero_lt_succ, Nat.min_self, Nat.zero_min, Nat.min_zero, Nat.sub_zero, Nat.zero_mul, Int.le_refl, Nat.le_refl, Nat.lt_irrefl, Nat.mul_one, Bool.false_eq_true, Bool.true_eq_false, decide_true, decide_false, decide_eq_true_eq, decide_eq_false_iff_not, Bool.not_true, Bool.not_false, Bool.not_eq_true', Bool.not_eq_false', Bool.and_true, Bool.true_and, Bool.false_and, beq_self_eq_true, ite_true, ite_false, true_and, and_true, false_and, and_false, not_true_eq_false, not_false_eq_true, false_implies, true_implies, implies_true, eq_self, ne_eq, or_true, true_or, or_false, false_or, Bool.or_false, Bool.or_true, Bool.false_or, Bool.true_or, Int.natCast_nonneg, Int.ofNat_lt, Int.ofNat_le, Int.ofNat_inj, Int.ofNat_zero, ↓reduceIte, reduceIte, Nat.reducePow, Nat.reduceLT, Nat.reduceLeDiff, Nat.reduceEqDiff, Nat.reduceAdd, Nat.reduceMul, Nat.reduceSub, Nat.reduceBEq, reduceCtorEq, sl1, wFacts, gmA]
    refine call_fn lives_fn rfl ?_
    simp only [↓wPre, wPost, wFast, Nat.zero_add, Nat.add_zero, Nat.zero_lt_succ, Nat.min_self, Nat.zero_min, Nat.min_zero, Nat.sub_zero, Nat.zero_mul, Int.le_refl, Nat.le_refl, Nat.lt_irrefl, Nat.mul_one, Bool.false_eq_true, Bool.true_eq_false, decide_true, decide_false, decide_eq_true_eq, decide_eq_false_iff_not, Bool.not_true, Bool.not_false, Bool.not_eq_true', Bool.not_eq_false', Bool.and_true, Bool.true_and, Bool.false_and, beq_self_eq_true, ite_true, ite_false, true_and, and_true, false_and, and_false, not_true_eq_false, not_false_eq_true, false_implies, true_implies, implies_true, eq_self, ne_eq, or_true, true_or, or_false, false_or, Bool.or_false, Bool.or_true, Bool.false_or, Bool.true_or, Int.natCast_nonneg, Int.ofNat_lt, Int.ofNat_le, Int.ofNat_inj, Int.ofNat_zero, ↓reduceIte, reduceIte, Nat.reducePow, Nat.reduceLT, Nat.reduceLeDiff, Nat.reduceEqDiff, Nat.reduceAdd, Nat.reduceMul, Nat.reduceSub, Nat.reduceBEq, reduceCtorEq, sl1, wFacts, gmA]
    exact ret1E rfl rfl (settled_bool _) rfl
  obtain ⟨k, hk⟩ : ∃ k, aroundF fr g.own.length = k := ⟨_, rfl⟩
  simp (config := { maxSteps := 2000000 }) only [hk, ↓wPre, wPost, wFast, Nat.zero_add, Nat.add_zero, Nat.zero_lt_succ, Nat.min_self, Nat.zero_min, Nat.min_zero, Nat.sub_zero, Nat.zero_mul, Int.le_refl, Nat.le_refl, Nat.lt_irrefl, Nat.mul_one, Bool.false_eq_true, Bool.true_eq_false, decide_true, decide_false, decide_eq_true_eq, decide_eq_false_iff_not, Bool.not_true, Bool.not_false, Bool.not_eq_true', Bool.not_eq_false', Bool.and_true, Bool.true_and, Bool.false_and, beq_self_eq_true, ite_true, ite_false, true_and, and_true, false_and, and_false, not_true_eq_false, not_false_eq_true, false_implies, true_implies, implies_true, eq_self, ne_eq, or_true, true_or, or_false, false_or, Bool.or_false, Bool.or_true, Bool.false_or, Bool.true_or, Int.natCast_nonneg, Int.ofNat_lt, Int.ofNat_le, Int.ofNat_inj, Int.ofNat_zero, ↓reduceIte, reduceIte, Nat.reducePow, Nat.reduceLT, Nat.reduceLeDiff, Nat.reduceEqDiff, Nat.reduceAdd, Nat.reduceMul, Nat.reduceSub, Nat.reduceBEq, reduceCtorEq, sl1, wFacts, gmA]
  refine run_loop (fun j : Nat => ⟨23, [], [ints l, I fr, ints C, ints faults, .any, .any, .any, .any, .bool false, .ref 0 0 0, .any, .any, .any, intss [C, B], I i, ints [fr, k], I j, .any, .any, .any, .any, .any, .any], [], [.row 0 4 (ofL (gmL g))]⟩) (fun j => j ≤ 2) (fun j => 2 - j) 0 (by omega)
    ((sub_weak 15 (ints [fr, k]) (show 15 < 23 by omega) ?_).trans (sub_mk rfl ?_ ?_ ?_)) ?_
  · exact weak_lit [fr, k] _
  · simp [subL, ints, intss, sl1, I]
  · simp [subT]
  · simp [gmL, ints, intss, sl1]
  intro j hj nextj
  have w2 := wj j (by omega)
  have hCi : ([C, B].getD i []).length < 9223372036854775808 := by
    rcases (show i = 0 ∨ i = 1 by omega) with rfl | rfl
    · exact hC
    · show B.length < _; omega
  refine vc_soundN 1000 ?_
  simp (config := { maxSteps := 2000000 }) only [w1, w2, gmL, ↓wPre, wPost, wFast, Nat.zero_add, Nat.add_zero, Nat.zero_lt_succ, Nat.min_self, Nat.zero_min, Nat.min_zero, Nat.sub_zero, Nat.zero_mul, Int.le_refl, Nat.le_refl, Nat.lt_irrefl, Nat.mul_one, Bool.false_eq_true, Bool.true_eq_false, decide_true, decide_false, decide_eq_true_eq, decide_eq_false_iff_not, Bool.not_true, Bool.not_false, Bool.not_eq_true', Bool.not_eq_false', Bool.and_true, Bool.true_and, Bool.false_and, beq_self_eq_true, ite_true, ite_false, true_and, and_true, false_and, and_false, not_true_eq_false, not_false_eq_true, false_implies, true_implies, implies_true, eq_self, ne_eq, or_true, true_or, or_false, false_or, Bool.or_false, Bool.or_true, Bool.false_or, Bool.true_or, Int.natCast_nonneg, Int.ofNat_lt, Int.ofNat_le, Int.ofNat_inj, Int.ofNat_zero, ↓reduceIte, reduceIte, Nat.reducePow, Nat.reduceLT, Nat.reduceLeDiff, Nat.reduceEqDiff, Nat.reduceAdd, Nat.reduceMul, Nat.reduceSub, Nat.reduceBEq, reduceCtorEq, sl1, wFacts, gmA]
  obtain ⟨a, e, hp, hal⟩ := playG_form g ([fr, k].getD j 0) ([C, B].getD i []) faults
  have hp1 := play_fn g hs ([fr, k].getD j 0) ([C, B].getD i []) faults hCi hF hfa
  have hp2 := rplay_fn g hs ([fr, k].getD j 0) ([C, B].getD i []) faults hCi hF hfa
  rw [hp] at hp1 hp2
  refine ⟨fun hj' => ⟨by omega, by omega, by omega, by omega, call_fn hp1 rfl ?_⟩, fun hj' => ?_⟩
  rotate_left
  · refine next (i + 1) _ (by omega) (by omega) (sub_mk rfl ?_ ?_ ?_)
    · simp [subL, ints, intss, sl1, I]
    · simp [subT]
    · simp [gmL, ints, intss, sl1]
  simp (config := { maxSteps := 2000000 }) only [w1, w2, gmL, ↓wPre, wPost, wFast, Nat.zero_add, Nat.add_zero, Nat.zero_lt_succ, Nat.min_self, Nat.zero_min, Nat.min_zero, Nat.sub_zero, Nat.zero_mul, Int.le_refl, Nat.le_refl, Nat.lt_irrefl, Nat.mul_one, Bool.false_eq_true, Bool.true_eq_false, decide_true, decide_false, decide_eq_true_eq, decide_eq_false_iff_not, Bool.not_true, Bool.not_false, Bool.not_eq_true', Bool.not_eq_false', Bool.and_true, Bool.true_and, Bool.false_and, beq_self_eq_true, ite_true, ite_false, true_and, and_true, false_and, and_false, not_true_eq_false, not_false_eq_true, false_implies, true_implies, implies_true, eq_self, ne_eq, or_true, true_or, or_false, false_or, Bool.or_false, Bool.or_true, Bool.false_or, Bool.true_or, Int.natCast_nonneg, Int.ofNat_lt, Int.ofNat_le, Int.ofNat_inj, Int.ofNat_zero, ↓reduceIte, reduceIte, Nat.reducePow, Nat.reduceLT, Nat.reduceLeDiff, Nat.reduceEqDiff, Nat.reduceAdd, Nat.reduceMul, Nat.reduceSub, Nat.reduceBEq, reduceCtorEq, sl1, wFacts, gmA]
  refine ⟨by omega, by omega, by omega, by omega, call_fn hp2 rfl ?_⟩
  simp (config := { maxSteps := 2000000 }) only [w1, w2, gmL, ↓wPre, wPost, wFast, Nat.zero_add, Nat.add_zero, Nat.zero_lt_succ, Nat.min_self, Nat.zero_min, Nat.min_zero, Nat.sub_zero, Nat.zero_mul, Int.le_refl, Nat.le_refl, Nat.lt_irrefl, Nat.mul_one, Bool.false_eq_true, Bool.true_eq_false, decide_true, decide_false, decide_eq_true_eq, decide_eq_false_iff_not, Bool.not_true, Bool.not_false, Bool.not_eq_true', Bool.not_eq_false', Bool.and_true, Bool.true_and, Bool.false_and, beq_self_eq_true, ite_true, ite_false, true_and, and_true, false_and, and_false, not_true_eq_false, not_false_eq_true, false_implies, true_implies, implies_true, eq_self, ne_eq, or_true, true_or, or_false, false_or, Bool.or_false, Bool.or_true, Bool.false_or, Bool.true_or, Int.natCast_nonneg, Int.ofNat_lt, Int.ofNat_le, Int.ofNat_inj, Int.ofNat_zero, ↓reduceIte, reduceIte, Nat.reducePow, Nat.reduceLT, Nat.reduceLeDiff, Nat.reduceEqDiff, Nat.reduceAdd, Nat.reduceMul, Nat.reduceSub, Nat.reduceBEq, reduceCtorEq, sl1, wFacts, gmA]
  refine call_fn (same_fn a a (by omega)) rfl ?_
  simp (config := { maxSteps := 2000000 }) only [w1, w2, gmL, ↓wPre, wPost, wFast, Nat.zero_add, Nat.add_zero, Nat.zero_lt_succ, Nat.min_self, Nat.zero_min, Nat.min_zero, Nat.sub_zero, Nat.zero_mul, Int.le_refl, Nat.le_refl, Nat.lt_irrefl, Nat.mul_one, Bool.false_eq_true, Bool.true_eq_false, decide_true, decide_false, decide_eq_true_eq, decide_eq_false_iff_not, Bool.not_true, Bool.not_false, Bool.not_eq_true', Bool.not_eq_false', Bool.and_true, Bool.true_and, Bool.false_and, beq_self_eq_true, ite_true, ite_false, true_and, and_true, false_and, and_false, not_true_eq_false, not_false_eq_true, false_implies, true_implies, implies_true, eq_self, ne_eq, or_true, true_or, or_false, false_or, Bool.or_false, Bool.or_true, Bool.false_or, Bool.true_or, Int.natCast_nonneg, Int.ofNat_lt, Int.ofNat_le, Int.ofNat_inj, Int.ofNat_zero, ↓reduceIte, reduceIte, Nat.reducePow, Nat.reduceLT, Nat.reduceLeDiff, Nat.reduceEqDiff, Nat.reduceAdd, Nat.reduceMul, Nat.reduceSub, Nat.reduceBEq, reduceCtorEq, sl1, wFacts, gmA]
  refine nextj (j + 1) _ (by omega) (by omega) (sub_mk rfl ?_ ?_ ?_)
  · simp [subL, ints, intss, sl1, I]
  · simp [subT]
  · simp [gmL, ints, intss, sl1]
end
end Go.Ab.G
