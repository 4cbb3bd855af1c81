/- Contracts of functions of this chapter, for every argument that fits, and what they need. -/
import Derived.Test.YtlhlhpgcjjhjkaaG21
set_option linter.unusedSimpArgs false
set_option linter.unusedVariables false
namespace Go.Ab.G
open Go Go.RowKit Go.Proofs
noncomputable section
set_option maxRecDepth 10000
set_option maxHeartbeats 2000000
set_option linter.unusedSimpArgs false
set_option linter.unusedVariables false
set_option pp.maxSteps 100000
open Classical

theorem changedF_le (l : List Int) (how at_ by_ B : Int) (hl : 0 < l.length) (hB : 9 ≤ B) (h : ∀ q, l.getD q 0 ≤ B) : ∀ q, (changedF l how at_ by_).getD q 0 ≤ B := by
  intro q
  have hb := aroundF_bound by_ 12 (by omega)
  unfold changedF
  rw [if_neg (by omega)]
  split
  · by_cases e : q < l.length - 1
    · rw [getD_take _ _ _ _ e]; exact h q
    · rw [List.getD_eq_getElem?_getD, List.getElem?_eq_none (by simp; omega)]; simp; omega
  · by_cases e : (aroundF at_ l.length).toNat < l.length
    · rw [getD_set _ _ _ _ e]
      split
      · omega
      · exact h q
    · rw [List.set_eq_of_length_le (by omega)]; exact h q
theorem rk_le (g : Gm) (q : Nat) : (tab (rk g) g.n).getD q 0 ≤ g.n := by
  by_cases h : q < g.n
  · rw [tab_at _ _ _ h]
    have := rk_range g q
    omega
  · rw [List.getD_eq_getElem?_getD, List.getElem?_eq_none (by rw [tab_len]; omega)]; simp
theorem gameWon_fn (l : List Int) (fr how at_ by_ : Int) (faults : List Int) (ha : all64 l) (h0 : in64 fr) (h1 : in64 how) (h2 : in64 at_) (h3 : in64 by_) (hF : faults.length < 9223372036854775808) (hfa : all64 faults) :
    Fn Try.prog 7 [ints l, I fr, I how, I at_, I by_, ints faults] (.bool true) := by
  refine Fn.intro (fn := Try.f7) Try.call7 Try.func7 rfl mixed 25 [] [] [] (by kernel_rfl) (Nat.le_of_ble_eq_true rfl) (by simp [settled_ints, settled_I, settled_fn0, settled_intss, settled_bool, settled_nil, settled_gmA]) (vc_soundN 1000 ?_); simp (config := { maxSteps := 2000000 }) only [AS.start, ↓wPre, wPost, wFast, Nat.zero_add, Nat.add_zero, Nat.zero_lt_succ, Nat.min_self, Nat.zero_min, Nat.min_zero, Nat.sub_zero, Nat.zero_mul, Int.le_refl, Nat.le_refl, Nat.lt_irrefl, Nat.mul_one, Bool.false_eq_true, Bool.true_eq_false, decide_true, decide_false, decide_eq_true_eq, decide_eq_false_iff_not, Bool.not_true, Bool.not_false, Bool.not_eq_true', Bool.not_eq_false', Bool.and_true, Bool.true_and, Bool.false_and, beq_self_eq_true, ite_true, ite_false, true_and, and_true, false_and, and_false, not_true_eq_false, not_false_eq_true, false_implies, true_implies, implies_true, eq_self, ne_eq, or_true, true_or, or_false, false_or, Bool.or_false, Bool.or_true, Bool.false_or, Bool.true_or, Int.natCast_nonneg, Int.ofNat_lt, Int.ofNat_le, Int.ofNat_inj, Int.ofNat_zero, ↓reduceIte, reduceIte, Nat.reducePow, Nat.reduceLT, Nat.reduceLeDiff, Nat.reduceEqDiff, Nat.reduceAdd, Nat.reduceMul, Nat.reduceSub, Nat.reduceBEq, reduceCtorEq, sl1, wFacts, gmA]
  refine call_fn (some_fn l ha) rfl ?_
  have hv := someG_ok l
  have hs := someG_small l
  have hnb := numS_bound l
  have hn := someG_n l
  generalize someG l = g at *
  have hn' : g.own.length = numS l := hn
  obtain ⟨hsz, hrest⟩ := valid_ok hv
  have hs' := hs
  obtain ⟨s1, s2, s3, s4, s5⟩ := hs'
  simp only [gmA, ↓wPre, wPost, wFast, Nat.zero_add, Nat.add_zero, Nat.zero_lt_succ, Nat.min_self, Nat.zero_min, Nat.min_zero, Nat.sub_zero, Nat.zero_mul, Int.le_refl, Nat.le_refl, Nat.lt_irrefl, Nat.mul_one, Bool.false_eq_true, Bool.true_eq_false, decide_true, decide_false, decide_eq_true_eq, decide_eq_false_iff_not, Bool.not_true, Bool.not_false, Bool.not_eq_true', Bool.not_eq_false', Bool.and_true, Bool.true_and, Bool.false_and, beq_self_eq_true, ite_true, ite_false, true_and, and_true, false_and, and_false, not_true_eq_false, not_false_eq_true, false_implies, true_implies, implies_true, eq_self, ne_eq, or_true, true_or, or_false, false_or, Bool.or_false, Bool.or_true, Bool.false_or, Bool.true_or, Int.natCast_nonneg, Int.ofNat_lt, Int.ofNat_le, Int.ofNat_inj, Int.ofNat_zero, ↓reduceIte, reduceIte, Nat.reducePow, Nat.reduceLT, Nat.reduceLeDiff, Nat.reduceEqDiff, Nat.reduceAdd, Nat.reduceMul, Nat.reduceSub, Nat.reduceBEq, reduceCtorEq, sl1, wFacts, gmA]
  refine call_fn (around_fn fr g.own.length h0 (by omega)) rfl ?_
  have hk := aroundF_bound fr g.own.length (by omega)
  obtain ⟨k, hkk⟩ : ∃ k : Nat, aroundF fr g.own.length = k := ⟨(aroundF fr g.own.length).toNat, by omega⟩
  simp only [gmA, hkk, ↓wPre, wPost, wFast, Nat.zero_add, Nat.add_zero, Nat.zero_lt_succ, Nat.min_self, Nat.zero_min, Nat.min_zero, Nat.sub_zero, Nat.zero_mul, Int.le_refl, Nat.le_refl, Nat.lt_irrefl, Nat.mul_one, Bool.false_eq_true, Bool.true_eq_false, decide_true, decide_false, decide_eq_true_eq, decide_eq_false_iff_not, Bool.not_true, Bool.not_false, Bool.not_eq_true', Bool.not_eq_false', Bool.and_true, Bool.true_and, Bool.false_and, beq_self_eq_true, ite_true, ite_false, true_and, and_true, false_and, and_false, not_true_eq_false, not_false_eq_true, false_implies, true_implies, implies_true, eq_self, ne_eq, or_true, true_or, or_false, false_or, Bool.or_false, Bool.or_true, Bool.false_or, Bool.true_or, Int.natCast_nonneg, Int.ofNat_lt, Int.ofNat_le, Int.ofNat_inj, Int.ofNat_zero, ↓reduceIte, reduceIte, Nat.reducePow, Nat.reduceLT, Nat.reduceLeDiff, Nat.reduceEqDiff, Nat.reduceAdd, Nat.reduceMul, Nat.reduceSub, Nat.reduceBEq, reduceCtorEq, sl1, wFacts, gmA]
  refine call_fn (rsolve_ok g hs hv) rfl ?_
  have hRb := rk_le g
  have hRl : (tab (rk g) g.n).length = g.own.length := tab_len _ _
  have hCl : (tab (choF g) g.n).length = g.own.length := tab_len _ _
  generalize tab (rk g) g.n = R at *
  generalize tab (choF g) g.n = C at *
  simp only [gmA, ↓wPre, wPost, wFast, Nat.zero_add, Nat.add_zero, Nat.zero_lt_succ, Nat.min_self, Nat.zero_min, Nat.min_zero, Nat.sub_zero, Nat.zero_mul, Int.le_refl, Nat.le_refl, Nat.lt_irrefl, Nat.mul_one, Bool.false_eq_true, Bool.true_eq_false, decide_true, decide_false, decide_eq_true_eq, decide_eq_false_iff_not, Bool.not_true, Bool.not_false, Bool.not_eq_true', Bool.not_eq_false', Bool.and_true, Bool.true_and, Bool.false_and, beq_self_eq_true, ite_true, ite_false, true_and, and_true, false_and, and_false, not_true_eq_false, not_false_eq_true, false_implies, true_implies, implies_true, eq_self, ne_eq, or_true, true_or, or_false, false_or, Bool.or_false, Bool.or_true, Bool.false_or, Bool.true_or, Int.natCast_nonneg, Int.ofNat_lt, Int.ofNat_le, Int.ofNat_inj, Int.ofNat_zero, ↓reduceIte, reduceIte, Nat.reducePow, Nat.reduceLT, Nat.reduceLeDiff, Nat.reduceEqDiff, Nat.reduceAdd, Nat.reduceMul, Nat.reduceSub, Nat.reduceBEq, reduceCtorEq, sl1, wFacts, gmA]
  refine call_fn (changed_fn R how at_ by_ (by omega) h2 h3) rfl ?_
  have hR2 := changedF_len R how at_ by_ (by omega)
  have hRb2 := changedF_le R how at_ by_ 4096 (by omega) (by omega) (fun q => by have := hRb q; omega)
  generalize changedF R how at_ by_ = R2 at *
  simp only [gmA, ↓wPre, wPost, wFast, Nat.zero_add, Nat.add_zero, Nat.zero_lt_succ, Nat.min_self, Nat.zero_min, Nat.min_zero, Nat.sub_zero, Nat.zero_mul, Int.le_refl, Nat.le_refl, Nat.lt_irrefl, Nat.mul_one, Bool.false_eq_true, Bool.true_eq_false, decide_true, decide_false, decide_eq_true_eq, decide_eq_false_iff_not, Bool.not_true, Bool.not_false, Bool.not_eq_true', Bool.not_eq_false', Bool.and_true, Bool.true_and, Bool.false_and, beq_self_eq_true, ite_true, ite_false, true_and, and_true, false_and, and_false, not_true_eq_false, not_false_eq_true, false_implies, true_implies, implies_true, eq_self, ne_eq, or_true, true_or, or_false, false_or, Bool.or_false, Bool.or_true, Bool.false_or, Bool.true_or, Int.natCast_nonneg, Int.ofNat_lt, Int.ofNat_le, Int.ofNat_inj, Int.ofNat_zero, ↓reduceIte, reduceIte, Nat.reducePow, Nat.reduceLT, Nat.reduceLeDiff, Nat.reduceEqDiff, Nat.reduceAdd, Nat.reduceMul, Nat.reduceSub, Nat.reduceBEq, reduceCtorEq, sl1, wFacts, gmA]
  refine call_fn (changed_fn C by_ at_ how (by omega) h2 h1) rfl ?_
  have hC2 := changedF_len C by_ at_ how (by omega)
  generalize changedF C by_ at_ how = C2 at *
  simp only [gmA, ↓wPre, wPost, wFast, Nat.zero_add, Nat.add_zero, Nat.zero_lt_succ, Nat.min_self, Nat.zero_min, Nat.min_zero, Nat.sub_zero, Nat.zero_mul, Int.le_refl, Nat.le_refl, Nat.lt_irrefl, Nat.mul_one, Bool.false_eq_true, Bool.true_eq_false, decide_true, decide_false, decide_eq_true_eq, decide_eq_false_iff_not, Bool.not_true, Bool.not_false, Bool.not_eq_true', Bool.not_eq_false', Bool.and_true, Bool.true_and, Bool.false_and, beq_self_eq_true, ite_true, ite_false, true_and, and_true, false_and, and_false, not_true_eq_false, not_false_eq_true, false_implies, true_implies, implies_true, eq_self, ne_eq, or_true, true_or, or_false, false_or, Bool.or_false, Bool.or_true, Bool.false_or, Bool.true_or, Int.natCast_nonneg, Int.ofNat_lt, Int.ofNat_le, Int.ofNat_inj, Int.ofNat_zero, ↓reduceIte, reduceIte, Nat.reducePow, Nat.reduceLT, Nat.reduceLeDiff, Nat.reduceEqDiff, Nat.reduceAdd, Nat.reduceMul, Nat.reduceSub, Nat.reduceBEq, reduceCtorEq, sl1, wFacts, gmA]
  refine run_loop (fun x : Nat => ⟨25, [], [ints l, I fr, I how, I at_, I by_, ints faults, .any, .any, .any, .any, .any, .any, .bool false, .ref 0 0 0, I k, .any, .any, .any, intss [R, R2], intss [C, C2], I x, .any, .any, .any, .any], [], [.row 0 4 (ofL (gmL g))]⟩) (fun x => x ≤ 2) (fun x => 2 - x) 0 (by omega)
    ((sub_weak 18 (intss [R, R2]) (show 18 < 25 by omega) ?_).trans ((sub_weak 19 (intss [C, C2]) (show 19 < 25 by omega) ?_).trans (sub_mk rfl ?_ ?_ ?_))) ?_
  · exact weak_two R R2 _
  · exact weak_two C C2 _
  · simp [subL, ints, intss, sl1, I]
  · simp [subT]
  · simp [gmL, ints, intss, sl1]
  intro x hx next
  have w1 := wj x (by omega)
  refine vc_soundN 1000 ?_
  simp (config := { maxSteps := 2000000 }) only [w1, gmL, ↓wPre, wPost, wFast, Nat.zero_add, Nat.add_zero, Nat.zero_lt_succ, Nat.min_self, Nat.zero_min, Nat.min_zero, Nat.sub_zero, Nat.zero_mul, Int.le_refl, Nat.le_refl, Nat.lt_irrefl, Nat.mul_one, Bool.false_eq_true, Bool.true_eq_false, decide_true, decide_false, decide_eq_true_eq, decide_eq_false_iff_not, Bool.not_true, Bool.not_false, Bool.not_eq_true', Bool.not_eq_false', Bool.and_true, Bool.true_and, Bool.false_and, beq_self_eq_true, ite_true, ite_false, true_and, and_true, false_and, and_false, not_true_eq_false, not_false_eq_true, false_implies, true_implies, implies_true, eq_self, ne_eq, or_true, true_or, or_false, false_or, Bool.or_false, Bool.or_true, Bool.false_or, Bool.true_or, Int.natCast_nonneg, Int.ofNat_lt, Int.ofNat_le, Int.ofNat_inj, Int.ofNat_zero, ↓reduceIte, reduceIte, Nat.reducePow, Nat.reduceLT, Nat.reduceLeDiff, Nat.reduceEqDiff, Nat.reduceAdd, Nat.reduceMul, Nat.reduceSub, Nat.reduceBEq, reduceCtorEq, sl1, wFacts, gmA]
  refine ⟨fun hx' => ?_, fun hx' => ?_⟩
  rotate_left
  · refine call_fn lives_fn rfl ?_
    simp only [↓wPre, wPost, wFast, Nat.zero_add, Nat.add_zero, Nat.zero_lt_succ, Nat.min_self, Nat.zero_min, Nat.min_zero, Nat.sub_zero, Nat.zero_mul, Int.le_refl, Nat.le_refl, Nat.lt_irrefl, Nat.mul_one, Bool.false_eq_true, Bool.true_eq_false, decide_true, decide_false, decide_eq_true_eq, decide_eq_false_iff_not, Bool.not_true, Bool.not_false, Bool.not_eq_true', Bool.not_eq_false', Bool.and_true, Bool.true_and, Bool.false_and, beq_self_eq_true, ite_true, ite_false, true_and, and_true, false_and, and_false, not_true_eq_false, not_false_eq_true, false_implies, true_implies, implies_true, eq_self, ne_eq, or_true, true_or, or_false, false_or, Bool.or_false, Bool.or_true, Bool.false_or, Bool.true_or, Int.natCast_nonneg, Int.ofNat_lt, Int.ofNat_le, Int.ofNat_inj, Int.ofNat_zero, ↓reduceIte, reduceIte, Nat.reducePow, Nat.reduceLT, Nat.reduceLeDiff, Nat.reduceEqDiff, Nat.reduceAdd, Nat.reduceMul, Nat.reduceSub, Nat.reduceBEq, reduceCtorEq, sl1, wFacts, gmA]
    exact ret1E rfl rfl (settled_bool _) rfl
  refine run_loop (fun y : Nat => ⟨25, [], [ints l, I fr, I how, I at_, I by_, ints faults, .any, .any, .any, .any, .any, .any, .bool false, .ref 0 0 0, I k, .any, .any, .any, intss [R, R2], intss [C, C2], I x, I y, .any, .any, .any], [], [.row 0 4 (ofL (gmL g))]⟩) (fun y => y ≤ 2) (fun y => 2 - y) 0 (by omega)
    (sub_mk rfl ?_ ?_ ?_) ?_
  · simp [subL, ints, intss, sl1, I]
  · simp [subT]
  · simp [gmL, ints, intss, sl1]
  intro y hy nexty
  have w2 := wj y (by omega)
  obtain ⟨Rx, hRx⟩ : ∃ Rx, [R, R2].getD x [] = Rx := ⟨_, rfl⟩
  obtain ⟨Cy, hCy⟩ : ∃ Cy, [C, C2].getD y [] = Cy := ⟨_, rfl⟩
  have hRxl : Rx.length < 6000 ∧ ∀ q, Rx.getD q 0 ≤ 4096 := by
    rcases (show x = 0 ∨ x = 1 by omega) with rfl | rfl
    · rw [← hRx]; exact ⟨by show R.length < _; omega, fun q => by have := hRb q; show R.getD q 0 ≤ _; omega⟩
    · rw [← hRx]; exact ⟨hR2, hRb2⟩
  refine vc_soundN 1000 ?_
  simp (config := { maxSteps := 2000000 }) only [w1, w2, gmL, hRx, hCy, ↓wPre, wPost, wFast, Nat.zero_add, Nat.add_zero, Nat.zero_lt_succ, Nat.min_self, Nat.zero_min, Nat.min_zero, Nat.sub_zero, Nat.zero_mul, Int.le_refl, Nat.le_refl, Nat.lt_irrefl, Nat.mul_one, Bool.false_eq_true, Bool.true_eq_false, decide_true, decide_false, decide_eq_true_eq, decide_eq_false_iff_not, Bool.not_true, Bool.not_false, Bool.not_eq_true', Bool.not_eq_false', Bool.and_true, Bool.true_and, Bool.false_and, beq_self_eq_true, ite_true, ite_false, true_and, and_true, false_and, and_false, not_true_eq_false, not_false_eq_true, false_implies, true_implies, implies_true, eq_self, ne_eq, or_true, true_or, or_false, false_or, Bool.or_false, Bool.or_true, Bool.false_or, Bool.true_or, Int.natCast_nonneg, Int.ofNat_lt, Int.ofNat_le, Int.ofNat_inj, Int.ofNat_zero, ↓reduceIte, reduceIte, Nat.reducePow, Nat.reduceLT, Nat.reduceLeDiff, Nat.reduceEqDiff, Nat.reduceAdd, Nat.reduceMul, Nat.reduceSub, Nat.reduceBEq, reduceCtorEq, sl1, wFacts, gmA]
  refine ⟨fun hy' => ⟨by omega, by omega, by omega, by omega, ?_⟩, fun hy' => next (x + 1) _ (by omega) (by omega) (sub_mk rfl (by simp [subL, ints, intss, sl1, I]) (by simp [subT]) (by simp [gmL, ints, intss, sl1]))⟩
  have hCyl : Cy.length < 6000 := by
    rcases (show y = 0 ∨ y = 1 by omega) with rfl | rfl
    · rw [← hCy]; show C.length < _; omega
    · rw [← hCy]; exact hC2
  refine call_fn (check_fn g hs k Rx Cy (by omega) (by omega)) rfl ?_
  simp (config := { maxSteps := 2000000 }) only [w1, w2, gmL, hRx, hCy, ↓wPre, wPost, wFast, Nat.zero_add, Nat.add_zero, Nat.zero_lt_succ, Nat.min_self, Nat.zero_min, Nat.min_zero, Nat.sub_zero, Nat.zero_mul, Int.le_refl, Nat.le_refl, Nat.lt_irrefl, Nat.mul_one, Bool.false_eq_true, Bool.true_eq_false, decide_true, decide_false, decide_eq_true_eq, decide_eq_false_iff_not, Bool.not_true, Bool.not_false, Bool.not_eq_true', Bool.not_eq_false', Bool.and_true, Bool.true_and, Bool.false_and, beq_self_eq_true, ite_true, ite_false, true_and, and_true, false_and, and_false, not_true_eq_false, not_false_eq_true, false_implies, true_implies, implies_true, eq_self, ne_eq, or_true, true_or, or_false, false_or, Bool.or_false, Bool.or_true, Bool.false_or, Bool.true_or, Int.natCast_nonneg, Int.ofNat_lt, Int.ofNat_le, Int.ofNat_inj, Int.ofNat_zero, ↓reduceIte, reduceIte, Nat.reducePow, Nat.reduceLT, Nat.reduceLeDiff, Nat.reduceEqDiff, Nat.reduceAdd, Nat.reduceMul, Nat.reduceSub, Nat.reduceBEq, reduceCtorEq, sl1, wFacts, gmA]
  refine ⟨fun e1 => nexty (y + 1) _ (by omega) (by omega) (sub_mk rfl (by simp [subL, ints, intss, sl1, I]) (by simp [subT]) (by simp [gmL, ints, intss, sl1])), fun e1 => ⟨by omega, by omega, ?_⟩⟩
  obtain ⟨hfit, hnodes⟩ := (check_zero hv).1 e1
  have f1 : Rx.length = g.own.length := hfit.1
  have f2 : Cy.length = g.own.length := hfit.2.1
  have f3 : 0 ≤ Rx.getD k 0 := by have := hfit.2.2.2.2; simpa using this
  have hkn : k < g.n := by have := hfit.2.2.2.1; omega
  have hpl := play_fn g hs k Cy faults (by omega) hF hfa
  have hform : playG g k Cy faults = .tup [ints ((k : Int) :: playF g Cy faults 4096 k 0), I 0] := by
    unfold playG
    rw [if_neg (by rw [hv]; simp), if_neg (by unfold Gm.n; omega)]
    rfl
  rw [hform] at hpl
  obtain ⟨g1, g2, g3⟩ := play_won hrest hnodes faults 4096 k 0 hkn f3 (by have := hRxl.2 k; omega)
  obtain ⟨p, hp⟩ : ∃ p, p = (k : Int) :: playF g Cy faults 4096 k 0 := ⟨_, rfl⟩
  obtain ⟨L, hL⟩ : ∃ L, L = (playF g Cy faults 4096 k 0).length := ⟨_, rfl⟩
  have hpL : p.length = L + 1 := by rw [hp, hL]; rfl
  have hp0 : p.getD 0 0 = k := by rw [hp]; rfl
  rw [← hp] at g2 g3 hpl
  rw [← hL] at g1 g3
  clear hp hL hform
  have hLb : L ≤ 4096 := by have := hRxl.2 k; omega
  have wl : IntKind.i64.wrap ((p.length : Int) - 1) = (L : Int) := by rw [IntKind.wrap_i64]; omega
  refine call_fn hpl rfl ?_
  simp (config := { maxSteps := 2000000 }) only [w1, w2, gmL, hRx, hCy, wl, ↓wPre, wPost, wFast, Nat.zero_add, Nat.add_zero, Nat.zero_lt_succ, Nat.min_self, Nat.zero_min, Nat.min_zero, Nat.sub_zero, Nat.zero_mul, Int.le_refl, Nat.le_refl, Nat.lt_irrefl, Nat.mul_one, Bool.false_eq_true, Bool.true_eq_false, decide_true, decide_false, decide_eq_true_eq, decide_eq_false_iff_not, Bool.not_true, Bool.not_false, Bool.not_eq_true', Bool.not_eq_false', Bool.and_true, Bool.true_and, Bool.false_and, beq_self_eq_true, ite_true, ite_false, true_and, and_true, false_and, and_false, not_true_eq_false, not_false_eq_true, false_implies, true_implies, implies_true, eq_self, ne_eq, or_true, true_or, or_false, false_or, Bool.or_false, Bool.or_true, Bool.false_or, Bool.true_or, Int.natCast_nonneg, Int.ofNat_lt, Int.ofNat_le, Int.ofNat_inj, Int.ofNat_zero, ↓reduceIte, reduceIte, Nat.reducePow, Nat.reduceLT, Nat.reduceLeDiff, Nat.reduceEqDiff, Nat.reduceAdd, Nat.reduceMul, Nat.reduceSub, Nat.reduceBEq, reduceCtorEq, sl1, wFacts, gmA]
  refine ⟨fun q => absurd hpL (by omega), fun q => ⟨by omega, by omega, by omega, by omega, fun q2 => by omega, fun q2 => ?_⟩⟩
  refine run_loop (fun i : Nat => ⟨25, [], [ints l, I fr, I how, I at_, I by_, ints faults, .any, .any, .any, .any, .any, .any, .bool false, .ref 0 0 0, I k, .any, .any, .any, intss [R, R2], intss [C, C2], I x, I y, ints p, .any, I i], [], [.row 0 4 (ofL (gmL g))]⟩) (fun i => i ≤ p.length) (fun i => p.length - i) 0 (by omega)
    (sub_mk rfl (by simp [subL, ints, intss, sl1, I]) (by simp [subT]) (by simp [gmL, ints, intss, sl1])) ?_
  intro i hi nexti
  have w3 := wj i (by omega)
  refine vc_soundN 1000 ?_
  simp (config := { maxSteps := 2000000 }) only [w1, w2, w3, wl, gmL, hRx, hCy, ↓wPre, wPost, wFast, Nat.zero_add, Nat.add_zero, Nat.zero_lt_succ, Nat.min_self, Nat.zero_min, Nat.min_zero, Nat.sub_zero, Nat.zero_mul, Int.le_refl, Nat.le_refl, Nat.lt_irrefl, Nat.mul_one, Bool.false_eq_true, Bool.true_eq_false, decide_true, decide_false, decide_eq_true_eq, decide_eq_false_iff_not, Bool.not_true, Bool.not_false, Bool.not_eq_true', Bool.not_eq_false', Bool.and_true, Bool.true_and, Bool.false_and, beq_self_eq_true, ite_true, ite_false, true_and, and_true, false_and, and_false, not_true_eq_false, not_false_eq_true, false_implies, true_implies, implies_true, eq_self, ne_eq, or_true, true_or, or_false, false_or, Bool.or_false, Bool.or_true, Bool.false_or, Bool.true_or, Int.natCast_nonneg, Int.ofNat_lt, Int.ofNat_le, Int.ofNat_inj, Int.ofNat_zero, ↓reduceIte, reduceIte, Nat.reducePow, Nat.reduceLT, Nat.reduceLeDiff, Nat.reduceEqDiff, Nat.reduceAdd, Nat.reduceMul, Nat.reduceSub, Nat.reduceBEq, reduceCtorEq, sl1, wFacts, gmA]
  refine ⟨fun hi' => ⟨by omega, by omega, ?_⟩, fun hi' => ?_⟩
  · refine call_fn (has_fn g.bad (p.getD i 0) (by omega)) rfl ?_
    have hno := g2 _ (getD_mem (l := p) (d := 0) (show i < p.length by omega))
    simp (config := { maxSteps := 2000000 }) only [hno, w1, w2, w3, gmL, hRx, hCy, ↓wPre, wPost, wFast, Nat.zero_add, Nat.add_zero, Nat.zero_lt_succ, Nat.min_self, Nat.zero_min, Nat.min_zero, Nat.sub_zero, Nat.zero_mul, Int.le_refl, Nat.le_refl, Nat.lt_irrefl, Nat.mul_one, Bool.false_eq_true, Bool.true_eq_false, decide_true, decide_false, decide_eq_true_eq, decide_eq_false_iff_not, Bool.not_true, Bool.not_false, Bool.not_eq_true', Bool.not_eq_false', Bool.and_true, Bool.true_and, Bool.false_and, beq_self_eq_true, ite_true, ite_false, true_and, and_true, false_and, and_false, not_true_eq_false, not_false_eq_true, false_implies, true_implies, implies_true, eq_self, ne_eq, or_true, true_or, or_false, false_or, Bool.or_false, Bool.or_true, Bool.false_or, Bool.true_or, Int.natCast_nonneg, Int.ofNat_lt, Int.ofNat_le, Int.ofNat_inj, Int.ofNat_zero, ↓reduceIte, reduceIte, Nat.reducePow, Nat.reduceLT, Nat.reduceLeDiff, Nat.reduceEqDiff, Nat.reduceAdd, Nat.reduceMul, Nat.reduceSub, Nat.reduceBEq, reduceCtorEq, sl1, wFacts, gmA]
    exact nexti (i + 1) _ (by omega) (by omega) (sub_mk rfl (by simp [subL, ints, intss, sl1, I]) (by simp [subT]) (by simp [gmL, ints, intss, sl1]))
  · simp (config := { maxSteps := 2000000 }) only [hp0, ↓wPre, wPost, wFast, Nat.zero_add, Nat.add_zero, Nat.zero_lt_succ, Nat.min_self, Nat.zero_min, Nat.min_zero, Nat.sub_zero, Nat.zero_mul, Int.le_refl, Nat.le_refl, Nat.lt_irrefl, Nat.mul_one, Bool.false_eq_true, Bool.true_eq_false, decide_true, decide_false, decide_eq_true_eq, decide_eq_false_iff_not, Bool.not_true, Bool.not_false, Bool.not_eq_true', Bool.not_eq_false', Bool.and_true, Bool.true_and, Bool.false_and, beq_self_eq_true, ite_true, ite_false, true_and, and_true, false_and, and_false, not_true_eq_false, not_false_eq_true, false_implies, true_implies, implies_true, eq_self, ne_eq, or_true, true_or, or_false, false_or, Bool.or_false, Bool.or_true, Bool.false_or, Bool.true_or, Int.natCast_nonneg, Int.ofNat_lt, Int.ofNat_le, Int.ofNat_inj, Int.ofNat_zero, ↓reduceIte, reduceIte, Nat.reducePow, Nat.reduceLT, Nat.reduceLeDiff, Nat.reduceEqDiff, Nat.reduceAdd, Nat.reduceMul, Nat.reduceSub, Nat.reduceBEq, reduceCtorEq, sl1, wFacts, gmA]
    refine ⟨by omega, by omega, by omega, by omega, ?_⟩
    refine call_fn (has_fn g.goal (p.getD L 0) (by omega)) rfl ?_
    simp (config := { maxSteps := 2000000 }) only [g3, w1, w2, w3, gmL, hRx, hCy, ↓wPre, wPost, wFast, Nat.zero_add, Nat.add_zero, Nat.zero_lt_succ, Nat.min_self, Nat.zero_min, Nat.min_zero, Nat.sub_zero, Nat.zero_mul, Int.le_refl, Nat.le_refl, Nat.lt_irrefl, Nat.mul_one, Bool.false_eq_true, Bool.true_eq_false, decide_true, decide_false, decide_eq_true_eq, decide_eq_false_iff_not, Bool.not_true, Bool.not_false, Bool.not_eq_true', Bool.not_eq_false', Bool.and_true, Bool.true_and, Bool.false_and, beq_self_eq_true, ite_true, ite_false, true_and, and_true, false_and, and_false, not_true_eq_false, not_false_eq_true, false_implies, true_implies, implies_true, eq_self, ne_eq, or_true, true_or, or_false, false_or, Bool.or_false, Bool.or_true, Bool.false_or, Bool.true_or, Int.natCast_nonneg, Int.ofNat_lt, Int.ofNat_le, Int.ofNat_inj, Int.ofNat_zero, ↓reduceIte, reduceIte, Nat.reducePow, Nat.reduceLT, Nat.reduceLeDiff, Nat.reduceEqDiff, Nat.reduceAdd, Nat.reduceMul, Nat.reduceSub, Nat.reduceBEq, reduceCtorEq, sl1, wFacts, gmA]
    exact nexty (y + 1) _ (by omega) (by omega) (sub_mk rfl (by simp [subL, ints, intss, sl1, I]) (by simp [subT]) (by simp [gmL, ints, intss, sl1]))
end
end Go.Ab.G
