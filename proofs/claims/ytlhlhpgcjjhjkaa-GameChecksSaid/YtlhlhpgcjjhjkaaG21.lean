/- Contracts of functions of this chapter, for every argument that fits, and what they need. -/
import Derived.Test.YtlhlhpgcjjhjkaaGD
set_option linter.unusedSimpArgs false
set_option linter.unusedVariables false
namespace Go.Ab.G
open Go Go.RowKit Go.Proofs
noncomputable section
set_option maxRecDepth 10000
set_option maxHeartbeats 2000000
set_option linter.unusedSimpArgs false
set_option linter.unusedVariables false
set_option pp.maxSteps 100000
open Classical

theorem weak_two (a b : List Int) (t : Bool) : Weak (.sl 2 2 (ofL [ints a, ints b]) t) (intss [a, b]) := weak_slW rfl (Nat.le_refl _) fun j hj => by
  rcases (show j = 0 ∨ j = 1 by simp at hj; omega) with rfl | rfl
  · exact Weak.rfl' _
  · exact Weak.rfl' _
theorem changedF_len (l : List Int) (how at_ by_ : Int) (h : l.length < 5000) : (changedF l how at_ by_).length < 6000 := by
  unfold changedF
  split
  · simp
  · split
    · simp; omega
    · simp; omega
theorem solve_ok (g : Gm) (hs : smallG g) (hv : validF g = 0) : Fn Try.prog 11 [gmA g] (.tup [ints (tab (rk g) g.n), ints (tab (choF g) g.n), I 0]) := by
  have h := solve_fn g hs
  rw [if_neg (by rw [hv]; simp)] at h
  exact h
theorem counter_ok (g : Gm) (hs : smallG g) (hv : validF g = 0) : Fn Try.prog 16 [gmA g] (.tup [ints (tab (winF g) g.n), ints (tab (ctrF g) g.n), I 0]) := by
  have h := counter_fn g hs
  rw [if_neg (by rw [hv]; simp)] at h
  exact h
theorem gameDetermined_fn (l : List Int) (how at_ by_ : Int) (ha : all64 l) (h1 : in64 how) (h2 : in64 at_) (h3 : in64 by_) : Fn Try.prog 6 [ints l, I how, I at_, I by_] (.bool true) := by
  refine Fn.intro (fn := Try.f6) Try.call6 Try.func6 rfl mixed 22 [] [] [] (by kernel_rfl) (Nat.le_of_ble_eq_true rfl) (by simp [settled_ints, settled_I, settled_fn0, settled_intss, settled_bool, settled_nil, settled_gmA]) (vc_soundN 1000 ?_); simp (config := { maxSteps := 2000000 }) only [AS.start, ↓wPre, wPost, wFast, Nat.zero_add, Nat.add_zero, Nat.zero_lt_succ, Nat.min_self, Nat.zero_min, Nat.min_zero, Nat.sub_zero, Nat.zero_mul, Int.le_refl, Nat.le_refl, Nat.lt_irrefl, Nat.mul_one, Bool.false_eq_true, Bool.true_eq_false, decide_true, decide_false, decide_eq_true_eq, decide_eq_false_iff_not, Bool.not_true, Bool.not_false, Bool.not_eq_true', Bool.not_eq_false', Bool.and_true, Bool.true_and, Bool.false_and, beq_self_eq_true, ite_true, ite_false, true_and, and_true, false_and, and_false, not_true_eq_false, not_false_eq_true, false_implies, true_implies, implies_true, eq_self, ne_eq, or_true, true_or, or_false, false_or, Bool.or_false, Bool.or_true, Bool.false_or, Bool.true_or, Int.natCast_nonneg, Int.ofNat_lt, Int.ofNat_le, Int.ofNat_inj, Int.ofNat_zero, ↓reduceIte, reduceIte, Nat.reducePow, Nat.reduceLT, Nat.reduceLeDiff, Nat.reduceEqDiff, Nat.reduceAdd, Nat.reduceMul, Nat.reduceSub, Nat.reduceBEq, reduceCtorEq, sl1, wFacts, gmA]
  refine call_fn (some_fn l ha) rfl ?_
  have hv := someG_ok l
  have hs := someG_small l
  have hnb := numS_bound l
  have hn := someG_n l
  generalize someG l = g at *
  have hn' : g.own.length = numS l := hn
  simp only [gmA, ↓wPre, wPost, wFast, Nat.zero_add, Nat.add_zero, Nat.zero_lt_succ, Nat.min_self, Nat.zero_min, Nat.min_zero, Nat.sub_zero, Nat.zero_mul, Int.le_refl, Nat.le_refl, Nat.lt_irrefl, Nat.mul_one, Bool.false_eq_true, Bool.true_eq_false, decide_true, decide_false, decide_eq_true_eq, decide_eq_false_iff_not, Bool.not_true, Bool.not_false, Bool.not_eq_true', Bool.not_eq_false', Bool.and_true, Bool.true_and, Bool.false_and, beq_self_eq_true, ite_true, ite_false, true_and, and_true, false_and, and_false, not_true_eq_false, not_false_eq_true, false_implies, true_implies, implies_true, eq_self, ne_eq, or_true, true_or, or_false, false_or, Bool.or_false, Bool.or_true, Bool.false_or, Bool.true_or, Int.natCast_nonneg, Int.ofNat_lt, Int.ofNat_le, Int.ofNat_inj, Int.ofNat_zero, ↓reduceIte, reduceIte, Nat.reducePow, Nat.reduceLT, Nat.reduceLeDiff, Nat.reduceEqDiff, Nat.reduceAdd, Nat.reduceMul, Nat.reduceSub, Nat.reduceBEq, reduceCtorEq, sl1, wFacts, gmA]
  refine call_fn (solve_ok g hs hv) rfl ?_
  simp only [gmA, ↓wPre, wPost, wFast, Nat.zero_add, Nat.add_zero, Nat.zero_lt_succ, Nat.min_self, Nat.zero_min, Nat.min_zero, Nat.sub_zero, Nat.zero_mul, Int.le_refl, Nat.le_refl, Nat.lt_irrefl, Nat.mul_one, Bool.false_eq_true, Bool.true_eq_false, decide_true, decide_false, decide_eq_true_eq, decide_eq_false_iff_not, Bool.not_true, Bool.not_false, Bool.not_eq_true', Bool.not_eq_false', Bool.and_true, Bool.true_and, Bool.false_and, beq_self_eq_true, ite_true, ite_false, true_and, and_true, false_and, and_false, not_true_eq_false, not_false_eq_true, false_implies, true_implies, implies_true, eq_self, ne_eq, or_true, true_or, or_false, false_or, Bool.or_false, Bool.or_true, Bool.false_or, Bool.true_or, Int.natCast_nonneg, Int.ofNat_lt, Int.ofNat_le, Int.ofNat_inj, Int.ofNat_zero, ↓reduceIte, reduceIte, Nat.reducePow, Nat.reduceLT, Nat.reduceLeDiff, Nat.reduceEqDiff, Nat.reduceAdd, Nat.reduceMul, Nat.reduceSub, Nat.reduceBEq, reduceCtorEq, sl1, wFacts, gmA]
  refine call_fn (counter_ok g hs hv) rfl ?_
  have fR : ∀ k, k < g.own.length → (checkG g k (tab (rk g) g.n) (tab (choF g) g.n) = 0 ↔ 0 ≤ (tab (rk g) g.n).getD k 0) := fun k hk => by rw [tab_at _ _ _ (show k < g.n from hk)]; exact solve_check hv hk
  have fW : ∀ k, k < g.own.length → (checkW g k (tab (winF g) g.n) (tab (ctrF g) g.n) = 0 ↔ (tab (rk g) g.n).getD k 0 < 0) := fun k hk => by rw [tab_at _ _ _ (show k < g.n from hk)]; exact counter_check hv hk
  have fX : ∀ k, k < g.own.length → ((tab (winF g) g.n).getD k 0 = 1 ↔ (tab (rk g) g.n).getD k 0 < 0) := fun k hk => by
    rw [tab_at _ _ _ (show k < g.n from hk), tab_at _ _ _ (show k < g.n from hk)]; unfold winF
    by_cases h : rk g k < 0 <;> simp [h]
  have hRl : (tab (rk g) g.n).length = g.own.length := tab_len _ _
  have hCl : (tab (choF g) g.n).length = g.own.length := tab_len _ _
  have hWl : (tab (winF g) g.n).length = g.own.length := tab_len _ _
  have hDl : (tab (ctrF g) g.n).length = g.own.length := tab_len _ _
  generalize tab (rk g) g.n = R at *
  generalize tab (choF g) g.n = C at *
  generalize tab (winF g) g.n = W at *
  generalize tab (ctrF g) g.n = D at *
  simp only [gmA, ↓wPre, wPost, wFast, Nat.zero_add, Nat.add_zero, Nat.zero_lt_succ, Nat.min_self, Nat.zero_min, Nat.min_zero, Nat.sub_zero, Nat.zero_mul, Int.le_refl, Nat.le_refl, Nat.lt_irrefl, Nat.mul_one, Bool.false_eq_true, Bool.true_eq_false, decide_true, decide_false, decide_eq_true_eq, decide_eq_false_iff_not, Bool.not_true, Bool.not_false, Bool.not_eq_true', Bool.not_eq_false', Bool.and_true, Bool.true_and, Bool.false_and, beq_self_eq_true, ite_true, ite_false, true_and, and_true, false_and, and_false, not_true_eq_false, not_false_eq_true, false_implies, true_implies, implies_true, eq_self, ne_eq, or_true, true_or, or_false, false_or, Bool.or_false, Bool.or_true, Bool.false_or, Bool.true_or, Int.natCast_nonneg, Int.ofNat_lt, Int.ofNat_le, Int.ofNat_inj, Int.ofNat_zero, ↓reduceIte, reduceIte, Nat.reducePow, Nat.reduceLT, Nat.reduceLeDiff, Nat.reduceEqDiff, Nat.reduceAdd, Nat.reduceMul, Nat.reduceSub, Nat.reduceBEq, reduceCtorEq, sl1, wFacts, gmA]
  refine ⟨fun q => absurd hRl (by omega), fun q => ⟨fun q => absurd hWl (by omega), fun q => ?_⟩⟩
  refine call_fn (changed_fn R how at_ by_ (by omega) h2 h3) rfl ?_
  have hR2 := changedF_len R how at_ by_ (by omega)
  generalize changedF R how at_ by_ = R2 at *
  simp only [gmA, ↓wPre, wPost, wFast, Nat.zero_add, Nat.add_zero, Nat.zero_lt_succ, Nat.min_self, Nat.zero_min, Nat.min_zero, Nat.sub_zero, Nat.zero_mul, Int.le_refl, Nat.le_refl, Nat.lt_irrefl, Nat.mul_one, Bool.false_eq_true, Bool.true_eq_false, decide_true, decide_false, decide_eq_true_eq, decide_eq_false_iff_not, Bool.not_true, Bool.not_false, Bool.not_eq_true', Bool.not_eq_false', Bool.and_true, Bool.true_and, Bool.false_and, beq_self_eq_true, ite_true, ite_false, true_and, and_true, false_and, and_false, not_true_eq_false, not_false_eq_true, false_implies, true_implies, implies_true, eq_self, ne_eq, or_true, true_or, or_false, false_or, Bool.or_false, Bool.or_true, Bool.false_or, Bool.true_or, Int.natCast_nonneg, Int.ofNat_lt, Int.ofNat_le, Int.ofNat_inj, Int.ofNat_zero, ↓reduceIte, reduceIte, Nat.reducePow, Nat.reduceLT, Nat.reduceLeDiff, Nat.reduceEqDiff, Nat.reduceAdd, Nat.reduceMul, Nat.reduceSub, Nat.reduceBEq, reduceCtorEq, sl1, wFacts, gmA]
  refine call_fn (changed_fn W by_ at_ how (by omega) h2 h1) rfl ?_
  have hW2 := changedF_len W by_ at_ how (by omega)
  generalize changedF W by_ at_ how = W2 at *
  simp only [gmA, ↓wPre, wPost, wFast, Nat.zero_add, Nat.add_zero, Nat.zero_lt_succ, Nat.min_self, Nat.zero_min, Nat.min_zero, Nat.sub_zero, Nat.zero_mul, Int.le_refl, Nat.le_refl, Nat.lt_irrefl, Nat.mul_one, Bool.false_eq_true, Bool.true_eq_false, decide_true, decide_false, decide_eq_true_eq, decide_eq_false_iff_not, Bool.not_true, Bool.not_false, Bool.not_eq_true', Bool.not_eq_false', Bool.and_true, Bool.true_and, Bool.false_and, beq_self_eq_true, ite_true, ite_false, true_and, and_true, false_and, and_false, not_true_eq_false, not_false_eq_true, false_implies, true_implies, implies_true, eq_self, ne_eq, or_true, true_or, or_false, false_or, Bool.or_false, Bool.or_true, Bool.false_or, Bool.true_or, Int.natCast_nonneg, Int.ofNat_lt, Int.ofNat_le, Int.ofNat_inj, Int.ofNat_zero, ↓reduceIte, reduceIte, Nat.reducePow, Nat.reduceLT, Nat.reduceLeDiff, Nat.reduceEqDiff, Nat.reduceAdd, Nat.reduceMul, Nat.reduceSub, Nat.reduceBEq, reduceCtorEq, sl1, wFacts, gmA]
  refine run_loop (fun k : Nat => ⟨22, [], [ints l, I how, I at_, I by_, .any, .any, .any, .any, .bool false, .ref 0 0 0, ints R, ints C, .any, ints W, ints D, .any, I g.own.length, intss [R, R2], intss [W, W2], I k, .any, .any], [], [.row 0 4 (ofL (gmL g))]⟩) (fun k => k ≤ g.own.length) (fun k => g.own.length - k) 0 (by omega)
    ((sub_weak 17 (intss [R, R2]) (show 17 < 22 by omega) ?_).trans ((sub_weak 18 (intss [W, W2]) (show 18 < 22 by omega) ?_).trans (sub_mk rfl ?_ ?_ ?_))) ?_
  · exact weak_two R R2 _
  · exact weak_two W W2 _
  · simp [subL, ints, intss, sl1, I]
  · simp [subT]
  · simp [gmL, ints, intss, sl1]
  intro k hk next
  have w1 := wj k (by omega)
  refine vc_soundN 1000 ?_
  simp (config := { maxSteps := 2000000 }) only [w1, gmL, ↓wPre, wPost, wFast, Nat.zero_add, Nat.add_zero, Nat.zero_lt_succ, Nat.min_self, Nat.zero_min, Nat.min_zero, Nat.sub_zero, Nat.zero_mul, Int.le_refl, Nat.le_refl, Nat.lt_irrefl, Nat.mul_one, Bool.false_eq_true, Bool.true_eq_false, decide_true, decide_false, decide_eq_true_eq, decide_eq_false_iff_not, Bool.not_true, Bool.not_false, Bool.not_eq_true', Bool.not_eq_false', Bool.and_true, Bool.true_and, Bool.false_and, beq_self_eq_true, ite_true, ite_false, true_and, and_true, false_and, and_false, not_true_eq_false, not_false_eq_true, false_implies, true_implies, implies_true, eq_self, ne_eq, or_true, true_or, or_false, false_or, Bool.or_false, Bool.or_true, Bool.false_or, Bool.true_or, Int.natCast_nonneg, Int.ofNat_lt, Int.ofNat_le, Int.ofNat_inj, Int.ofNat_zero, ↓reduceIte, reduceIte, Nat.reducePow, Nat.reduceLT, Nat.reduceLeDiff, Nat.reduceEqDiff, Nat.reduceAdd, Nat.reduceMul, Nat.reduceSub, Nat.reduceBEq, reduceCtorEq, sl1, wFacts, gmA]
  refine ⟨fun hk' => ?_, fun hk' => ?_⟩
  rotate_left
  · refine call_fn lives_fn rfl ?_
    simp only [↓wPre, wPost, wFast, Nat.zero_add, Nat.add_zero, Nat.zero_lt_succ, Nat.min_self, Nat.zero_min, Nat.min_zero, Nat.sub_zero, Nat.zero_mul, Int.le_refl, Nat.le_refl, Nat.lt_irrefl, Nat.mul_one, Bool.false_eq_true, Bool.true_eq_false, decide_true, decide_false, decide_eq_true_eq, decide_eq_false_iff_not, Bool.not_true, Bool.not_false, Bool.not_eq_true', Bool.not_eq_false', Bool.and_true, Bool.true_and, Bool.false_and, beq_self_eq_true, ite_true, ite_false, true_and, and_true, false_and, and_false, not_true_eq_false, not_false_eq_true, false_implies, true_implies, implies_true, eq_self, ne_eq, or_true, true_or, or_false, false_or, Bool.or_false, Bool.or_true, Bool.false_or, Bool.true_or, Int.natCast_nonneg, Int.ofNat_lt, Int.ofNat_le, Int.ofNat_inj, Int.ofNat_zero, ↓reduceIte, reduceIte, Nat.reducePow, Nat.reduceLT, Nat.reduceLeDiff, Nat.reduceEqDiff, Nat.reduceAdd, Nat.reduceMul, Nat.reduceSub, Nat.reduceBEq, reduceCtorEq, sl1, wFacts, gmA]
    exact ret1E rfl rfl (settled_bool _) rfl
  refine call_fn (check_fn g hs k R C (by omega) (by omega)) rfl ?_
  have cR := fR k hk'
  have cW := fW k hk'
  have cX := fX k hk'
  have hnb2 : ∀ R1 W1 : List Int, checkG g k R1 C = 0 → checkW g k W1 D = 0 → False := fun R1 W1 => not_both hv hk'
  by_cases h0 : 0 ≤ R.getD k 0
  · have p1 : (0 ≤ R.getD k 0) = True := eq_true h0
    have p2 : (R.getD k 0 < 0) = False := eq_false (by omega)
    have p3 : (W.getD k 0 = 1) = False := eq_false fun h => by have := cX.1 h; omega
    have p4 : checkG g k R C = 0 := cR.2 h0
    have p5 : (checkW g k W D = 0) = False := eq_false fun h => by have := cW.1 h; omega
    simp (config := { maxSteps := 2000000 }) only [w1, gmL, p1, p2, p3, p4, p5, ↓wPre, wPost, wFast, Nat.zero_add, Nat.add_zero, Nat.zero_lt_succ, Nat.min_self, Nat.zero_min, Nat.min_zero, Nat.sub_zero, Nat.zero_mul, Int.le_refl, Nat.le_refl, Nat.lt_irrefl, Nat.mul_one, Bool.false_eq_true, Bool.true_eq_false, decide_true, decide_false, decide_eq_true_eq, decide_eq_false_iff_not, Bool.not_true, Bool.not_false, Bool.not_eq_true', Bool.not_eq_false', Bool.and_true, Bool.true_and, Bool.false_and, beq_self_eq_true, ite_true, ite_false, true_and, and_true, false_and, and_false, not_true_eq_false, not_false_eq_true, false_implies, true_implies, implies_true, eq_self, ne_eq, or_true, true_or, or_false, false_or, Bool.or_false, Bool.or_true, Bool.false_or, Bool.true_or, Int.natCast_nonneg, Int.ofNat_lt, Int.ofNat_le, Int.ofNat_inj, Int.ofNat_zero, ↓reduceIte, reduceIte, Nat.reducePow, Nat.reduceLT, Nat.reduceLeDiff, Nat.reduceEqDiff, Nat.reduceAdd, Nat.reduceMul, Nat.reduceSub, Nat.reduceBEq, reduceCtorEq, sl1, wFacts, gmA]
    refine ⟨by omega, by omega, call_fn (checkw_fn g hs k W D (by omega) (by omega)) rfl ?_⟩
    simp (config := { maxSteps := 2000000 }) only [w1, gmL, p1, p2, p3, p4, p5, ↓wPre, wPost, wFast, Nat.zero_add, Nat.add_zero, Nat.zero_lt_succ, Nat.min_self, Nat.zero_min, Nat.min_zero, Nat.sub_zero, Nat.zero_mul, Int.le_refl, Nat.le_refl, Nat.lt_irrefl, Nat.mul_one, Bool.false_eq_true, Bool.true_eq_false, decide_true, decide_false, decide_eq_true_eq, decide_eq_false_iff_not, Bool.not_true, Bool.not_false, Bool.not_eq_true', Bool.not_eq_false', Bool.and_true, Bool.true_and, Bool.false_and, beq_self_eq_true, ite_true, ite_false, true_and, and_true, false_and, and_false, not_true_eq_false, not_false_eq_true, false_implies, true_implies, implies_true, eq_self, ne_eq, or_true, true_or, or_false, false_or, Bool.or_false, Bool.or_true, Bool.false_or, Bool.true_or, Int.natCast_nonneg, Int.ofNat_lt, Int.ofNat_le, Int.ofNat_inj, Int.ofNat_zero, ↓reduceIte, reduceIte, Nat.reducePow, Nat.reduceLT, Nat.reduceLeDiff, Nat.reduceEqDiff, Nat.reduceAdd, Nat.reduceMul, Nat.reduceSub, Nat.reduceBEq, reduceCtorEq, sl1, wFacts, gmA]
    refine ⟨by omega, by omega, by omega, by omega, by omega, by omega, ?_⟩
    refine run_loop (fun x : Nat => ⟨22, [], [ints l, I how, I at_, I by_, .any, .any, .any, .any, .bool false, .ref 0 0 0, ints R, ints C, .any, ints W, ints D, .any, I g.own.length, intss [R, R2], intss [W, W2], I k, I x, .any], [], [.row 0 4 (ofL (gmL g))]⟩) (fun x => x ≤ 2) (fun x => 2 - x) 0 (by omega) (sub_mk rfl (by simp [subL, ints, intss, sl1, I]) (by simp [subT]) (by simp [gmL, ints, intss, sl1])) ?_
    intro x hx nextx
    have w2 := wj x (by omega)
    refine vc_soundN 1000 ?_
    simp (config := { maxSteps := 2000000 }) only [w1, w2, gmL, ↓wPre, wPost, wFast, Nat.zero_add, Nat.add_zero, Nat.zero_lt_succ, Nat.min_self, Nat.zero_min, Nat.min_zero, Nat.sub_zero, Nat.zero_mul, Int.le_refl, Nat.le_refl, Nat.lt_irrefl, Nat.mul_one, Bool.false_eq_true, Bool.true_eq_false, decide_true, decide_false, decide_eq_true_eq, decide_eq_false_iff_not, Bool.not_true, Bool.not_false, Bool.not_eq_true', Bool.not_eq_false', Bool.and_true, Bool.true_and, Bool.false_and, beq_self_eq_true, ite_true, ite_false, true_and, and_true, false_and, and_false, not_true_eq_false, not_false_eq_true, false_implies, true_implies, implies_true, eq_self, ne_eq, or_true, true_or, or_false, false_or, Bool.or_false, Bool.or_true, Bool.false_or, Bool.true_or, Int.natCast_nonneg, Int.ofNat_lt, Int.ofNat_le, Int.ofNat_inj, Int.ofNat_zero, ↓reduceIte, reduceIte, Nat.reducePow, Nat.reduceLT, Nat.reduceLeDiff, Nat.reduceEqDiff, Nat.reduceAdd, Nat.reduceMul, Nat.reduceSub, Nat.reduceBEq, reduceCtorEq, sl1, wFacts, gmA]
    refine ⟨fun hx' => ?_, fun hx' => next (k + 1) _ (by omega) (by omega) (sub_mk rfl (by simp [subL, ints, intss, sl1, I]) (by simp [subT]) (by simp [gmL, ints, intss, sl1]))⟩
    refine run_loop (fun y : Nat => ⟨22, [], [ints l, I how, I at_, I by_, .any, .any, .any, .any, .bool false, .ref 0 0 0, ints R, ints C, .any, ints W, ints D, .any, I g.own.length, intss [R, R2], intss [W, W2], I k, I x, I y], [], [.row 0 4 (ofL (gmL g))]⟩) (fun y => y ≤ 2) (fun y => 2 - y) 0 (by omega) (sub_mk rfl (by simp [subL, ints, intss, sl1, I]) (by simp [subT]) (by simp [gmL, ints, intss, sl1])) ?_
    intro y hy nexty
    have w3 := wj y (by omega)
    have hRx : ([R, R2].getD x []).length < 9223372036854775808 := by
      rcases (show x = 0 ∨ x = 1 by omega) with rfl | rfl
      · show R.length < _; omega
      · show R2.length < _; omega
    refine vc_soundN 1000 ?_
    simp (config := { maxSteps := 2000000 }) only [w1, w2, w3, gmL, ↓wPre, wPost, wFast, Nat.zero_add, Nat.add_zero, Nat.zero_lt_succ, Nat.min_self, Nat.zero_min, Nat.min_zero, Nat.sub_zero, Nat.zero_mul, Int.le_refl, Nat.le_refl, Nat.lt_irrefl, Nat.mul_one, Bool.false_eq_true, Bool.true_eq_false, decide_true, decide_false, decide_eq_true_eq, decide_eq_false_iff_not, Bool.not_true, Bool.not_false, Bool.not_eq_true', Bool.not_eq_false', Bool.and_true, Bool.true_and, Bool.false_and, beq_self_eq_true, ite_true, ite_false, true_and, and_true, false_and, and_false, not_true_eq_false, not_false_eq_true, false_implies, true_implies, implies_true, eq_self, ne_eq, or_true, true_or, or_false, false_or, Bool.or_false, Bool.or_true, Bool.false_or, Bool.true_or, Int.natCast_nonneg, Int.ofNat_lt, Int.ofNat_le, Int.ofNat_inj, Int.ofNat_zero, ↓reduceIte, reduceIte, Nat.reducePow, Nat.reduceLT, Nat.reduceLeDiff, Nat.reduceEqDiff, Nat.reduceAdd, Nat.reduceMul, Nat.reduceSub, Nat.reduceBEq, reduceCtorEq, sl1, wFacts, gmA]
    refine ⟨fun hy' => ⟨by omega, by omega, ?_⟩, fun hy' => nextx (x + 1) _ (by omega) (by omega) (sub_mk rfl (by simp [subL, ints, intss, sl1, I]) (by simp [subT]) (by simp [gmL, ints, intss, sl1]))⟩
    have hWy : ([W, W2].getD y []).length < 9223372036854775808 := by
      rcases (show y = 0 ∨ y = 1 by omega) with rfl | rfl
      · show W.length < _; omega
      · show W2.length < _; omega
    refine call_fn (check_fn g hs k ([R, R2].getD x []) C hRx (by omega)) rfl ?_
    simp (config := { maxSteps := 2000000 }) only [w1, w2, w3, gmL, ↓wPre, wPost, wFast, Nat.zero_add, Nat.add_zero, Nat.zero_lt_succ, Nat.min_self, Nat.zero_min, Nat.min_zero, Nat.sub_zero, Nat.zero_mul, Int.le_refl, Nat.le_refl, Nat.lt_irrefl, Nat.mul_one, Bool.false_eq_true, Bool.true_eq_false, decide_true, decide_false, decide_eq_true_eq, decide_eq_false_iff_not, Bool.not_true, Bool.not_false, Bool.not_eq_true', Bool.not_eq_false', Bool.and_true, Bool.true_and, Bool.false_and, beq_self_eq_true, ite_true, ite_false, true_and, and_true, false_and, and_false, not_true_eq_false, not_false_eq_true, false_implies, true_implies, implies_true, eq_self, ne_eq, or_true, true_or, or_false, false_or, Bool.or_false, Bool.or_true, Bool.false_or, Bool.true_or, Int.natCast_nonneg, Int.ofNat_lt, Int.ofNat_le, Int.ofNat_inj, Int.ofNat_zero, ↓reduceIte, reduceIte, Nat.reducePow, Nat.reduceLT, Nat.reduceLeDiff, Nat.reduceEqDiff, Nat.reduceAdd, Nat.reduceMul, Nat.reduceSub, Nat.reduceBEq, reduceCtorEq, sl1, wFacts, gmA]
    refine ⟨fun e1 => ⟨by omega, by omega, call_fn (checkw_fn g hs k ([W, W2].getD y []) D hWy (by omega)) rfl ?_⟩, fun e1 => nexty (y + 1) _ (by omega) (by omega) (sub_mk rfl (by simp [subL, ints, intss, sl1, I]) (by simp [subT]) (by simp [gmL, ints, intss, sl1]))⟩
    simp (config := { maxSteps := 2000000 }) only [w1, w2, w3, gmL, ↓wPre, wPost, wFast, Nat.zero_add, Nat.add_zero, Nat.zero_lt_succ, Nat.min_self, Nat.zero_min, Nat.min_zero, Nat.sub_zero, Nat.zero_mul, Int.le_refl, Nat.le_refl, Nat.lt_irrefl, Nat.mul_one, Bool.false_eq_true, Bool.true_eq_false, decide_true, decide_false, decide_eq_true_eq, decide_eq_false_iff_not, Bool.not_true, Bool.not_false, Bool.not_eq_true', Bool.not_eq_false', Bool.and_true, Bool.true_and, Bool.false_and, beq_self_eq_true, ite_true, ite_false, true_and, and_true, false_and, and_false, not_true_eq_false, not_false_eq_true, false_implies, true_implies, implies_true, eq_self, ne_eq, or_true, true_or, or_false, false_or, Bool.or_false, Bool.or_true, Bool.false_or, Bool.true_or, Int.natCast_nonneg, Int.ofNat_lt, Int.ofNat_le, Int.ofNat_inj, Int.ofNat_zero, ↓reduceIte, reduceIte, Nat.reducePow, Nat.reduceLT, Nat.reduceLeDiff, Nat.reduceEqDiff, Nat.reduceAdd, Nat.reduceMul, Nat.reduceSub, Nat.reduceBEq, reduceCtorEq, sl1, wFacts, gmA]
    exact ⟨fun e2 => absurd (hnb2 _ _ e1 e2) id, fun e2 => nexty (y + 1) _ (by omega) (by omega) (sub_mk rfl (by simp [subL, ints, intss, sl1, I]) (by simp [subT]) (by simp [gmL, ints, intss, sl1]))⟩
  · have p1 : (0 ≤ R.getD k 0) = False := eq_false h0
    have p2 : (R.getD k 0 < 0) = True := eq_true (by omega)
    have p3 : (W.getD k 0 = 1) = True := eq_true (cX.2 (by omega))
    have p4 : checkW g k W D = 0 := cW.2 (by omega)
    have p5 : (checkG g k R C = 0) = False := eq_false fun h => h0 (cR.1 h)
    simp (config := { maxSteps := 2000000 }) only [w1, gmL, p1, p2, p3, p4, p5, ↓wPre, wPost, wFast, Nat.zero_add, Nat.add_zero, Nat.zero_lt_succ, Nat.min_self, Nat.zero_min, Nat.min_zero, Nat.sub_zero, Nat.zero_mul, Int.le_refl, Nat.le_refl, Nat.lt_irrefl, Nat.mul_one, Bool.false_eq_true, Bool.true_eq_false, decide_true, decide_false, decide_eq_true_eq, decide_eq_false_iff_not, Bool.not_true, Bool.not_false, Bool.not_eq_true', Bool.not_eq_false', Bool.and_true, Bool.true_and, Bool.false_and, beq_self_eq_true, ite_true, ite_false, true_and, and_true, false_and, and_false, not_true_eq_false, not_false_eq_true, false_implies, true_implies, implies_true, eq_self, ne_eq, or_true, true_or, or_false, false_or, Bool.or_false, Bool.or_true, Bool.false_or, Bool.true_or, Int.natCast_nonneg, Int.ofNat_lt, Int.ofNat_le, Int.ofNat_inj, Int.ofNat_zero, ↓reduceIte, reduceIte, Nat.reducePow, Nat.reduceLT, Nat.reduceLeDiff, Nat.reduceEqDiff, Nat.reduceAdd, Nat.reduceMul, Nat.reduceSub, Nat.reduceBEq, reduceCtorEq, sl1, wFacts, gmA]
    refine ⟨by omega, by omega, call_fn (checkw_fn g hs k W D (by omega) (by omega)) rfl ?_⟩
    simp (config := { maxSteps := 2000000 }) only [w1, gmL, p1, p2, p3, p4, p5, ↓wPre, wPost, wFast, Nat.zero_add, Nat.add_zero, Nat.zero_lt_succ, Nat.min_self, Nat.zero_min, Nat.min_zero, Nat.sub_zero, Nat.zero_mul, Int.le_refl, Nat.le_refl, Nat.lt_irrefl, Nat.mul_one, Bool.false_eq_true, Bool.true_eq_false, decide_true, decide_false, decide_eq_true_eq, decide_eq_false_iff_not, Bool.not_true, Bool.not_false, Bool.not_eq_true', Bool.not_eq_false', Bool.and_true, Bool.true_and, Bool.false_and, beq_self_eq_true, ite_true, ite_false, true_and, and_true, false_and, and_false, not_true_eq_false, not_false_eq_true, false_implies, true_implies, implies_true, eq_self, ne_eq, or_true, true_or, or_false, false_or, Bool.or_false, Bool.or_true, Bool.false_or, Bool.true_or, Int.natCast_nonneg, Int.ofNat_lt, Int.ofNat_le, Int.ofNat_inj, Int.ofNat_zero, ↓reduceIte, reduceIte, Nat.reducePow, Nat.reduceLT, Nat.reduceLeDiff, Nat.reduceEqDiff, Nat.reduceAdd, Nat.reduceMul, Nat.reduceSub, Nat.reduceBEq, reduceCtorEq, sl1, wFacts, gmA]
    refine ⟨by omega, by omega, by omega, by omega, by omega, by omega, ?_⟩
    refine run_loop (fun x : Nat => ⟨22, [], [ints l, I how, I at_, I by_, .any, .any, .any, .any, .bool false, .ref 0 0 0, ints R, ints C, .any, ints W, ints D, .any, I g.own.length, intss [R, R2], intss [W, W2], I k, I x, .any], [], [.row 0 4 (ofL (gmL g))]⟩) (fun x => x ≤ 2) (fun x => 2 - x) 0 (by omega) (sub_mk rfl (by simp [subL, ints, intss, sl1, I]) (by simp [subT]) (by simp [gmL, ints, intss, sl1])) ?_
    intro x hx nextx
    have w2 := wj x (by omega)
    refine vc_soundN 1000 ?_
    simp (config := { maxSteps := 2000000 }) only [w1, w2, gmL, ↓wPre, wPost, wFast, Nat.zero_add, Nat.add_zero, Nat.zero_lt_succ, Nat.min_self, Nat.zero_min, Nat.min_zero, Nat.sub_zero, Nat.zero_mul, Int.le_refl, Nat.le_refl, Nat.lt_irrefl, Nat.mul_one, Bool.false_eq_true, Bool.true_eq_false, decide_true, decide_false, decide_eq_true_eq, decide_eq_false_iff_not, Bool.not_true, Bool.not_false, Bool.not_eq_true', Bool.not_eq_false', Bool.and_true, Bool.true_and, Bool.false_and, beq_self_eq_true, ite_true, ite_false, true_and, and_true, false_and, and_false, not_true_eq_false, not_false_eq_true, false_implies, true_implies, implies_true, eq_self, ne_eq, or_true, true_or, or_false, false_or, Bool.or_false, Bool.or_true, Bool.false_or, Bool.true_or, Int.natCast_nonneg, Int.ofNat_lt, Int.ofNat_le, Int.ofNat_inj, Int.ofNat_zero, ↓reduceIte, reduceIte, Nat.reducePow, Nat.reduceLT, Nat.reduceLeDiff, Nat.reduceEqDiff, Nat.reduceAdd, Nat.reduceMul, Nat.reduceSub, Nat.reduceBEq, reduceCtorEq, sl1, wFacts, gmA]
    refine ⟨fun hx' => ?_, fun hx' => next (k + 1) _ (by omega) (by omega) (sub_mk rfl (by simp [subL, ints, intss, sl1, I]) (by simp [subT]) (by simp [gmL, ints, intss, sl1]))⟩
    refine run_loop (fun y : Nat => ⟨22, [], [ints l, I how, I at_, I by_, .any, .any, .any, .any, .bool false, .ref 0 0 0, ints R, ints C, .any, ints W, ints D, .any, I g.own.length, intss [R, R2], intss [W, W2], I k, I x, I y], [], [.row 0 4 (ofL (gmL g))]⟩) (fun y => y ≤ 2) (fun y => 2 - y) 0 (by omega) (sub_mk rfl (by simp [subL, ints, intss, sl1, I]) (by simp [subT]) (by simp [gmL, ints, intss, sl1])) ?_
    intro y hy nexty
    have w3 := wj y (by omega)
    have hRx : ([R, R2].getD x []).length < 9223372036854775808 := by
      rcases (show x = 0 ∨ x = 1 by omega) with rfl | rfl
      · show R.length < _; omega
      · show R2.length < _; omega
    refine vc_soundN 1000 ?_
    simp (config := { maxSteps := 2000000 }) only [w1, w2, w3, gmL, ↓wPre, wPost, wFast, Nat.zero_add, Nat.add_zero, Nat.zero_lt_succ, Nat.min_self, Nat.zero_min, Nat.min_zero, Nat.sub_zero, Nat.zero_mul, Int.le_refl, Nat.le_refl, Nat.lt_irrefl, Nat.mul_one, Bool.false_eq_true, Bool.true_eq_false, decide_true, decide_false, decide_eq_true_eq, decide_eq_false_iff_not, Bool.not_true, Bool.not_false, Bool.not_eq_true', Bool.not_eq_false', Bool.and_true, Bool.true_and, Bool.false_and, beq_self_eq_true, ite_true, ite_false, true_and, and_true, false_and, and_false, not_true_eq_false, not_false_eq_true, false_implies, true_implies, implies_true, eq_self, ne_eq, or_true, true_or, or_false, false_or, Bool.or_false, Bool.or_true, Bool.false_or, Bool.true_or, Int.natCast_nonneg, Int.ofNat_lt, Int.ofNat_le, Int.ofNat_inj, Int.ofNat_zero, ↓reduceIte, reduceIte, Nat.reducePow, Nat.reduceLT, Nat.reduceLeDiff, Nat.reduceEqDiff, Nat.reduceAdd, Nat.reduceMul, Nat.reduceSub, Nat.reduceBEq, reduceCtorEq, sl1, wFacts, gmA]
    refine ⟨fun hy' => ⟨by omega, by omega, ?_⟩, fun hy' => nextx (x + 1) _ (by omega) (by omega) (sub_mk rfl (by simp [subL, ints, intss, sl1, I]) (by simp [subT]) (by simp [gmL, ints, intss, sl1]))⟩
    have hWy : ([W, W2].getD y []).length < 9223372036854775808 := by
      rcases (show y = 0 ∨ y = 1 by omega) with rfl | rfl
      · show W.length < _; omega
      · show W2.length < _; omega
    refine call_fn (check_fn g hs k ([R, R2].getD x []) C hRx (by omega)) rfl ?_
    simp (config := { maxSteps := 2000000 }) only [w1, w2, w3, gmL, ↓wPre, wPost, wFast, Nat.zero_add, Nat.add_zero, Nat.zero_lt_succ, Nat.min_self, Nat.zero_min, Nat.min_zero, Nat.sub_zero, Nat.zero_mul, Int.le_refl, Nat.le_refl, Nat.lt_irrefl, Nat.mul_one, Bool.false_eq_true, Bool.true_eq_false, decide_true, decide_false, decide_eq_true_eq, decide_eq_false_iff_not, Bool.not_true, Bool.not_false, Bool.not_eq_true', Bool.not_eq_false', Bool.and_true, Bool.true_and, Bool.false_and, beq_self_eq_true, ite_true, ite_false, true_and, and_true, false_and, and_false, not_true_eq_false, not_false_eq_true, false_implies, true_implies, implies_true, eq_self, ne_eq, or_true, true_or, or_false, false_or, Bool.or_false, Bool.or_true, Bool.false_or, Bool.true_or, Int.natCast_nonneg, Int.ofNat_lt, Int.ofNat_le, Int.ofNat_inj, Int.ofNat_zero, ↓reduceIte, reduceIte, Nat.reducePow, Nat.reduceLT, Nat.reduceLeDiff, Nat.reduceEqDiff, Nat.reduceAdd, Nat.reduceMul, Nat.reduceSub, Nat.reduceBEq, reduceCtorEq, sl1, wFacts, gmA]
    refine ⟨fun e1 => ⟨by omega, by omega, call_fn (checkw_fn g hs k ([W, W2].getD y []) D hWy (by omega)) rfl ?_⟩, fun e1 => nexty (y + 1) _ (by omega) (by omega) (sub_mk rfl (by simp [subL, ints, intss, sl1, I]) (by simp [subT]) (by simp [gmL, ints, intss, sl1]))⟩
    simp (config := { maxSteps := 2000000 }) only [w1, w2, w3, gmL, ↓wPre, wPost, wFast, Nat.zero_add, Nat.add_zero, Nat.zero_lt_succ, Nat.min_self, Nat.zero_min, Nat.min_zero, Nat.sub_zero, Nat.zero_mul, Int.le_refl, Nat.le_refl, Nat.lt_irrefl, Nat.mul_one, Bool.false_eq_true, Bool.true_eq_false, decide_true, decide_false, decide_eq_true_eq, decide_eq_false_iff_not, Bool.not_true, Bool.not_false, Bool.not_eq_true', Bool.not_eq_false', Bool.and_true, Bool.true_and, Bool.false_and, beq_self_eq_true, ite_true, ite_false, true_and, and_true, false_and, and_false, not_true_eq_false, not_false_eq_true, false_implies, true_implies, implies_true, eq_self, ne_eq, or_true, true_or, or_false, false_or, Bool.or_false, Bool.or_true, Bool.false_or, Bool.true_or, Int.natCast_nonneg, Int.ofNat_lt, Int.ofNat_le, Int.ofNat_inj, Int.ofNat_zero, ↓reduceIte, reduceIte, Nat.reducePow, Nat.reduceLT, Nat.reduceLeDiff, Nat.reduceEqDiff, Nat.reduceAdd, Nat.reduceMul, Nat.reduceSub, Nat.reduceBEq, reduceCtorEq, sl1, wFacts, gmA]
    exact ⟨fun e2 => absurd (hnb2 _ _ e1 e2) id, fun e2 => nexty (y + 1) _ (by omega) (by omega) (sub_mk rfl (by simp [subL, ints, intss, sl1, I]) (by simp [subT]) (by simp [gmL, ints, intss, sl1]))⟩
end
end Go.Ab.G
