/- Contracts of functions of these chapters, for every argument that fits, and what they need. -/
import Derived.Test.YtefjhgcndhepeaaC4
set_option linter.unusedSimpArgs false
set_option linter.unusedVariables false
namespace Go.Ab.N
open Go Go.RowKit Go.Proofs
noncomputable section
set_option maxRecDepth 10000
set_option maxHeartbeats 2000000
set_option linter.unusedSimpArgs false
set_option linter.unusedVariables false
open Classical

def rm : Nat := 100000000
theorem rat_int {a : Rat} (h : a.den = 1) : a = ((a.num : Int) : Rat) := Rat.ext (by rw [Rat.num_intCast]) (by rw [h, Rat.den_intCast])
theorem add_int {a b : Rat} (ha : a.den = 1) (hb : b.den = 1) : (a + b).num = a.num + b.num ∧ (a + b).den = 1 := by
  rw [rat_int ha, rat_int hb, ← Rat.intCast_add]
  exact ⟨Rat.num_intCast _, Rat.den_intCast _⟩
theorem mul_int {a b : Rat} (ha : a.den = 1) (hb : b.den = 1) : (a * b).num = a.num * b.num ∧ (a * b).den = 1 := by
  rw [rat_int ha, rat_int hb, ← Rat.intCast_mul]
  exact ⟨Rat.num_intCast _, Rat.den_intCast _⟩
theorem ne_len {r : Rat} (h : ¬ r = 0) : ((digs r.num.natAbs).length = 0) = False := eq_false fun e => h ((num_len r).1 e)
theorem qd_lenI (r : Rat) : (((digs (qd r)).length : Int) = 0) = (r.den = 1) := propext (by rw [← qd_len]; omega)
theorem num_lenI (r : Rat) : (((digs r.num.natAbs).length : Int) = 0) = (r = 0) := propext (by rw [← num_len]; omega)
theorem radd_fn (a b : Rat) (ha : qb a ≤ rm) (hb : qb b ≤ rm) : Fn Try.prog 17 [qA a, qA b] (qA (a + b)) := by
  unfold rm at ha hb
  have a1 := qb_num a; have a2 := qb_den a; have b1 := qb_num b; have b2 := qb_den b
  obtain ⟨R, hR⟩ : ∃ R, R = qA (a + b) := ⟨_, rfl⟩
  have sR : Settled R := hR ▸ settled_qA _
  have la := qd_lenI a
  have lb := qd_lenI b
  have na := num_lenI a
  have nb := num_lenI b
  rw [← hR]
  by_cases hi : a.den = 1 ∧ b.den = 1
  · have f1 : (a.den = 1) = True := eq_true hi.1
    have f2 : (b.den = 1) = True := eq_true hi.2
    obtain ⟨e1, e2⟩ := add_int hi.1 hi.2
    have hR' := hR.trans (qA_int e2)
    rw [e1] at hR'
    refine Fn.intro (fn := Try.f17) Try.call17 Try.func17 rfl mixed 7 [] [7, 80000002, 80000003] [] (by kernel_rfl) (Nat.le_of_ble_eq_true rfl) (by simp [settled_ints, settled_I, settled_fn0, settled_intss, settled_bool, settled_nil, settled_zA, settled_qA, settled_zR, settled_ofA, settled_int]) (vc_soundN 1000 ?_); simp (config := { maxSteps := 2000000 }) only [AS.start, ↓wPre, wPost, wFast, wCore, beq_self_eq_true, ite_true, ite_false, false_implies, true_implies, implies_true, eq_self, ne_eq, ↓reduceIte, reduceIte, Nat.reducePow, Nat.reduceLT, Nat.reduceLeDiff, Nat.reduceEqDiff, Nat.reduceAdd, Nat.reduceMul, Nat.reduceSub, Nat.reduceBEq, Nat.reduceDiv, Nat.reduceMod, reduceCtorEq, sl1, wFacts, zA, qA, qC, nb_tf, nb_ft, nb_tt, nb_ff]
    simp only [la, lb, f1, f2, ↓wPre, wPost, wFast, wCore, beq_self_eq_true, ite_true, ite_false, false_implies, true_implies, implies_true, eq_self, ne_eq, ↓reduceIte, reduceIte, Nat.reducePow, Nat.reduceLT, Nat.reduceLeDiff, Nat.reduceEqDiff, Nat.reduceAdd, Nat.reduceMul, Nat.reduceSub, Nat.reduceBEq, Nat.reduceDiv, Nat.reduceMod, reduceCtorEq, sl1, wFacts, zA, qA, qC, nb_tf, nb_ft, nb_tt, nb_ff]
    refine call_fn (add_fn a.num b.num (by unfold room; omega) (by unfold room; omega)) rfl ?_
    simp only [↓wPre, wPost, wFast, wCore, beq_self_eq_true, ite_true, ite_false, false_implies, true_implies, implies_true, eq_self, ne_eq, ↓reduceIte, reduceIte, Nat.reducePow, Nat.reduceLT, Nat.reduceLeDiff, Nat.reduceEqDiff, Nat.reduceAdd, Nat.reduceMul, Nat.reduceSub, Nat.reduceBEq, Nat.reduceDiv, Nat.reduceMod, reduceCtorEq, sl1, wFacts, zA, qA, qC, nb_tf, nb_ft, nb_tt, nb_ff]
    exact retRefE rfl ldk44 rfl rfl rfl hR' sR ⟨Weak.rfl' _, Weak.rfl' _, Weak.rfl' _, weak_emp _ _, trivial⟩
  have hnn : (a.den : Int) * b.den ≠ 0 := Int.mul_ne_zero (by have := a.den_nz; omega) (by have := b.den_nz; omega)
  have e0 : a + b = Rat.divInt (a.num * b.den + b.num * a.den) (a.den * b.den) := by
    rw [Rat.add_def', mkRat_divInt]; push_cast; rfl
  have m1 := bl_mul a.num b.den
  have m2 := bl_mul b.num a.den
  have m3 := bl_mul a.den b.den
  have m4 := bl_add (a.num * b.den) (b.num * a.den)
  have cA := den_fn a
  have cB := den_fn b
  have c1 := mul_fn a.num b.den (by unfold room; omega) (by unfold room; omega)
  have c2 := mul_fn b.num a.den (by unfold room; omega) (by unfold room; omega)
  have c3 := add_fn (a.num * b.den) (b.num * a.den) (by unfold room; omega) (by unfold room; omega)
  have c4 := mul_fn a.den b.den (by unfold room; omega) (by unfold room; omega)
  have c5 := make_fn (a.num * b.den + b.num * a.den) (a.den * b.den) (by omega) (by omega)
  rw [← e0, ← hR] at c5
  by_cases f : a.den = 1
  · have f1 : (a.den = 1) = True := eq_true f
    have f2 : (b.den = 1) = False := eq_false fun e => hi ⟨f, e⟩
    by_cases ha0 : a = 0
    · have g1 : (a = 0) = True := eq_true ha0
      have hR' : R = qA b := by rw [hR, ha0, Rat.zero_add]
      refine Fn.intro (fn := Try.f17) Try.call17 Try.func17 rfl mixed 7 [] [7, 80000002, 80000003] [] (by kernel_rfl) (Nat.le_of_ble_eq_true rfl) (by simp [settled_ints, settled_I, settled_fn0, settled_intss, settled_bool, settled_nil, settled_zA, settled_qA, settled_zR, settled_ofA, settled_int]) (vc_soundN 1000 ?_); simp (config := { maxSteps := 2000000 }) only [AS.start, ↓wPre, wPost, wFast, wCore, beq_self_eq_true, ite_true, ite_false, false_implies, true_implies, implies_true, eq_self, ne_eq, ↓reduceIte, reduceIte, Nat.reducePow, Nat.reduceLT, Nat.reduceLeDiff, Nat.reduceEqDiff, Nat.reduceAdd, Nat.reduceMul, Nat.reduceSub, Nat.reduceBEq, Nat.reduceDiv, Nat.reduceMod, reduceCtorEq, sl1, wFacts, zA, qA, qC, nb_tf, nb_ft, nb_tt, nb_ff]
      simp only [la, lb, na, nb, f1, f2, g1, ↓wPre, wPost, wFast, wCore, beq_self_eq_true, ite_true, ite_false, false_implies, true_implies, implies_true, eq_self, ne_eq, ↓reduceIte, reduceIte, Nat.reducePow, Nat.reduceLT, Nat.reduceLeDiff, Nat.reduceEqDiff, Nat.reduceAdd, Nat.reduceMul, Nat.reduceSub, Nat.reduceBEq, Nat.reduceDiv, Nat.reduceMod, reduceCtorEq, sl1, wFacts, zA, qA, qC, nb_tf, nb_ft, nb_tt, nb_ff]
      exact retA rfl ldk44 rfl rfl rfl sR (hR'.trans rfl)
    have g1 : (a = 0) = False := eq_false ha0
    by_cases hb0 : b = 0
    · have g2 : (b = 0) = True := eq_true hb0
      have hR' : R = qA a := by rw [hR, hb0, Rat.add_zero]
      refine Fn.intro (fn := Try.f17) Try.call17 Try.func17 rfl mixed 7 [] [7, 80000002, 80000003] [] (by kernel_rfl) (Nat.le_of_ble_eq_true rfl) (by simp [settled_ints, settled_I, settled_fn0, settled_intss, settled_bool, settled_nil, settled_zA, settled_qA, settled_zR, settled_ofA, settled_int]) (vc_soundN 1000 ?_); simp (config := { maxSteps := 2000000 }) only [AS.start, ↓wPre, wPost, wFast, wCore, beq_self_eq_true, ite_true, ite_false, false_implies, true_implies, implies_true, eq_self, ne_eq, ↓reduceIte, reduceIte, Nat.reducePow, Nat.reduceLT, Nat.reduceLeDiff, Nat.reduceEqDiff, Nat.reduceAdd, Nat.reduceMul, Nat.reduceSub, Nat.reduceBEq, Nat.reduceDiv, Nat.reduceMod, reduceCtorEq, sl1, wFacts, zA, qA, qC, nb_tf, nb_ft, nb_tt, nb_ff]
      simp only [la, lb, na, nb, f1, f2, g1, g2, ↓wPre, wPost, wFast, wCore, beq_self_eq_true, ite_true, ite_false, false_implies, true_implies, implies_true, eq_self, ne_eq, ↓reduceIte, reduceIte, Nat.reducePow, Nat.reduceLT, Nat.reduceLeDiff, Nat.reduceEqDiff, Nat.reduceAdd, Nat.reduceMul, Nat.reduceSub, Nat.reduceBEq, Nat.reduceDiv, Nat.reduceMod, reduceCtorEq, sl1, wFacts, zA, qA, qC, nb_tf, nb_ft, nb_tt, nb_ff]
      exact retA rfl ldk44 rfl rfl rfl sR (hR'.trans rfl)
    have g2 : (b = 0) = False := eq_false hb0
    refine Fn.intro (fn := Try.f17) Try.call17 Try.func17 rfl mixed 7 [] [7, 80000002, 80000003] [] (by kernel_rfl) (Nat.le_of_ble_eq_true rfl) (by simp [settled_ints, settled_I, settled_fn0, settled_intss, settled_bool, settled_nil, settled_zA, settled_qA, settled_zR, settled_ofA, settled_int]) (vc_soundN 1000 ?_); simp (config := { maxSteps := 2000000 }) only [AS.start, ↓wPre, wPost, wFast, wCore, beq_self_eq_true, ite_true, ite_false, false_implies, true_implies, implies_true, eq_self, ne_eq, ↓reduceIte, reduceIte, Nat.reducePow, Nat.reduceLT, Nat.reduceLeDiff, Nat.reduceEqDiff, Nat.reduceAdd, Nat.reduceMul, Nat.reduceSub, Nat.reduceBEq, Nat.reduceDiv, Nat.reduceMod, reduceCtorEq, sl1, wFacts, zA, qA, qC, nb_tf, nb_ft, nb_tt, nb_ff]
    simp only [la, lb, na, nb, f1, f2, g1, g2, ↓wPre, wPost, wFast, wCore, beq_self_eq_true, ite_true, ite_false, false_implies, true_implies, implies_true, eq_self, ne_eq, ↓reduceIte, reduceIte, Nat.reducePow, Nat.reduceLT, Nat.reduceLeDiff, Nat.reduceEqDiff, Nat.reduceAdd, Nat.reduceMul, Nat.reduceSub, Nat.reduceBEq, Nat.reduceDiv, Nat.reduceMod, reduceCtorEq, sl1, wFacts, zA, qA, qC, nb_tf, nb_ft, nb_tt, nb_ff]
    refine call_fn cA rfl ?_
    simp only [↓wPre, wPost, wFast, wCore, beq_self_eq_true, ite_true, ite_false, false_implies, true_implies, implies_true, eq_self, ne_eq, ↓reduceIte, reduceIte, Nat.reducePow, Nat.reduceLT, Nat.reduceLeDiff, Nat.reduceEqDiff, Nat.reduceAdd, Nat.reduceMul, Nat.reduceSub, Nat.reduceBEq, Nat.reduceDiv, Nat.reduceMod, reduceCtorEq, sl1, wFacts, zA, qA, qC, nb_tf, nb_ft, nb_tt, nb_ff]
    refine call_fn cB rfl ?_
    simp only [↓wPre, wPost, wFast, wCore, beq_self_eq_true, ite_true, ite_false, false_implies, true_implies, implies_true, eq_self, ne_eq, ↓reduceIte, reduceIte, Nat.reducePow, Nat.reduceLT, Nat.reduceLeDiff, Nat.reduceEqDiff, Nat.reduceAdd, Nat.reduceMul, Nat.reduceSub, Nat.reduceBEq, Nat.reduceDiv, Nat.reduceMod, reduceCtorEq, sl1, wFacts, zA, qA, qC, nb_tf, nb_ft, nb_tt, nb_ff]
    refine call_fn c1 rfl ?_
    simp only [↓wPre, wPost, wFast, wCore, beq_self_eq_true, ite_true, ite_false, false_implies, true_implies, implies_true, eq_self, ne_eq, ↓reduceIte, reduceIte, Nat.reducePow, Nat.reduceLT, Nat.reduceLeDiff, Nat.reduceEqDiff, Nat.reduceAdd, Nat.reduceMul, Nat.reduceSub, Nat.reduceBEq, Nat.reduceDiv, Nat.reduceMod, reduceCtorEq, sl1, wFacts, zA, qA, qC, nb_tf, nb_ft, nb_tt, nb_ff]
    refine call_fn c2 rfl ?_
    simp only [↓wPre, wPost, wFast, wCore, beq_self_eq_true, ite_true, ite_false, false_implies, true_implies, implies_true, eq_self, ne_eq, ↓reduceIte, reduceIte, Nat.reducePow, Nat.reduceLT, Nat.reduceLeDiff, Nat.reduceEqDiff, Nat.reduceAdd, Nat.reduceMul, Nat.reduceSub, Nat.reduceBEq, Nat.reduceDiv, Nat.reduceMod, reduceCtorEq, sl1, wFacts, zA, qA, qC, nb_tf, nb_ft, nb_tt, nb_ff]
    refine call_fn c3 rfl ?_
    simp only [↓wPre, wPost, wFast, wCore, beq_self_eq_true, ite_true, ite_false, false_implies, true_implies, implies_true, eq_self, ne_eq, ↓reduceIte, reduceIte, Nat.reducePow, Nat.reduceLT, Nat.reduceLeDiff, Nat.reduceEqDiff, Nat.reduceAdd, Nat.reduceMul, Nat.reduceSub, Nat.reduceBEq, Nat.reduceDiv, Nat.reduceMod, reduceCtorEq, sl1, wFacts, zA, qA, qC, nb_tf, nb_ft, nb_tt, nb_ff]
    refine call_fn c4 rfl ?_
    simp only [↓wPre, wPost, wFast, wCore, beq_self_eq_true, ite_true, ite_false, false_implies, true_implies, implies_true, eq_self, ne_eq, ↓reduceIte, reduceIte, Nat.reducePow, Nat.reduceLT, Nat.reduceLeDiff, Nat.reduceEqDiff, Nat.reduceAdd, Nat.reduceMul, Nat.reduceSub, Nat.reduceBEq, Nat.reduceDiv, Nat.reduceMod, reduceCtorEq, sl1, wFacts, zA, qA, qC, nb_tf, nb_ft, nb_tt, nb_ff]
    refine call_fn c5 rfl ?_
    simp only [hR, ↓wPre, wPost, wFast, wCore, beq_self_eq_true, ite_true, ite_false, false_implies, true_implies, implies_true, eq_self, ne_eq, ↓reduceIte, reduceIte, Nat.reducePow, Nat.reduceLT, Nat.reduceLeDiff, Nat.reduceEqDiff, Nat.reduceAdd, Nat.reduceMul, Nat.reduceSub, Nat.reduceBEq, Nat.reduceDiv, Nat.reduceMod, reduceCtorEq, sl1, wFacts, zA, qA, qC, nb_tf, nb_ft, nb_tt, nb_ff]
    exact retA rfl ldk44 rfl rfl rfl sR (hR.trans rfl)
  · have f1 : (a.den = 1) = False := eq_false f
    have f2 : True = True := rfl
    by_cases ha0 : a = 0
    · have g1 : (a = 0) = True := eq_true ha0
      have hR' : R = qA b := by rw [hR, ha0, Rat.zero_add]
      refine Fn.intro (fn := Try.f17) Try.call17 Try.func17 rfl mixed 7 [] [7, 80000002, 80000003] [] (by kernel_rfl) (Nat.le_of_ble_eq_true rfl) (by simp [settled_ints, settled_I, settled_fn0, settled_intss, settled_bool, settled_nil, settled_zA, settled_qA, settled_zR, settled_ofA, settled_int]) (vc_soundN 1000 ?_); simp (config := { maxSteps := 2000000 }) only [AS.start, ↓wPre, wPost, wFast, wCore, beq_self_eq_true, ite_true, ite_false, false_implies, true_implies, implies_true, eq_self, ne_eq, ↓reduceIte, reduceIte, Nat.reducePow, Nat.reduceLT, Nat.reduceLeDiff, Nat.reduceEqDiff, Nat.reduceAdd, Nat.reduceMul, Nat.reduceSub, Nat.reduceBEq, Nat.reduceDiv, Nat.reduceMod, reduceCtorEq, sl1, wFacts, zA, qA, qC, nb_tf, nb_ft, nb_tt, nb_ff]
      simp only [la, lb, na, nb, f1, f2, g1, ↓wPre, wPost, wFast, wCore, beq_self_eq_true, ite_true, ite_false, false_implies, true_implies, implies_true, eq_self, ne_eq, ↓reduceIte, reduceIte, Nat.reducePow, Nat.reduceLT, Nat.reduceLeDiff, Nat.reduceEqDiff, Nat.reduceAdd, Nat.reduceMul, Nat.reduceSub, Nat.reduceBEq, Nat.reduceDiv, Nat.reduceMod, reduceCtorEq, sl1, wFacts, zA, qA, qC, nb_tf, nb_ft, nb_tt, nb_ff]
      exact retA rfl ldk44 rfl rfl rfl sR (hR'.trans rfl)
    have g1 : (a = 0) = False := eq_false ha0
    by_cases hb0 : b = 0
    · have g2 : (b = 0) = True := eq_true hb0
      have hR' : R = qA a := by rw [hR, hb0, Rat.add_zero]
      refine Fn.intro (fn := Try.f17) Try.call17 Try.func17 rfl mixed 7 [] [7, 80000002, 80000003] [] (by kernel_rfl) (Nat.le_of_ble_eq_true rfl) (by simp [settled_ints, settled_I, settled_fn0, settled_intss, settled_bool, settled_nil, settled_zA, settled_qA, settled_zR, settled_ofA, settled_int]) (vc_soundN 1000 ?_); simp (config := { maxSteps := 2000000 }) only [AS.start, ↓wPre, wPost, wFast, wCore, beq_self_eq_true, ite_true, ite_false, false_implies, true_implies, implies_true, eq_self, ne_eq, ↓reduceIte, reduceIte, Nat.reducePow, Nat.reduceLT, Nat.reduceLeDiff, Nat.reduceEqDiff, Nat.reduceAdd, Nat.reduceMul, Nat.reduceSub, Nat.reduceBEq, Nat.reduceDiv, Nat.reduceMod, reduceCtorEq, sl1, wFacts, zA, qA, qC, nb_tf, nb_ft, nb_tt, nb_ff]
      simp only [la, lb, na, nb, f1, f2, g1, g2, ↓wPre, wPost, wFast, wCore, beq_self_eq_true, ite_true, ite_false, false_implies, true_implies, implies_true, eq_self, ne_eq, ↓reduceIte, reduceIte, Nat.reducePow, Nat.reduceLT, Nat.reduceLeDiff, Nat.reduceEqDiff, Nat.reduceAdd, Nat.reduceMul, Nat.reduceSub, Nat.reduceBEq, Nat.reduceDiv, Nat.reduceMod, reduceCtorEq, sl1, wFacts, zA, qA, qC, nb_tf, nb_ft, nb_tt, nb_ff]
      exact retA rfl ldk44 rfl rfl rfl sR (hR'.trans rfl)
    have g2 : (b = 0) = False := eq_false hb0
    refine Fn.intro (fn := Try.f17) Try.call17 Try.func17 rfl mixed 7 [] [7, 80000002, 80000003] [] (by kernel_rfl) (Nat.le_of_ble_eq_true rfl) (by simp [settled_ints, settled_I, settled_fn0, settled_intss, settled_bool, settled_nil, settled_zA, settled_qA, settled_zR, settled_ofA, settled_int]) (vc_soundN 1000 ?_); simp (config := { maxSteps := 2000000 }) only [AS.start, ↓wPre, wPost, wFast, wCore, beq_self_eq_true, ite_true, ite_false, false_implies, true_implies, implies_true, eq_self, ne_eq, ↓reduceIte, reduceIte, Nat.reducePow, Nat.reduceLT, Nat.reduceLeDiff, Nat.reduceEqDiff, Nat.reduceAdd, Nat.reduceMul, Nat.reduceSub, Nat.reduceBEq, Nat.reduceDiv, Nat.reduceMod, reduceCtorEq, sl1, wFacts, zA, qA, qC, nb_tf, nb_ft, nb_tt, nb_ff]
    simp only [la, lb, na, nb, f1, f2, g1, g2, ↓wPre, wPost, wFast, wCore, beq_self_eq_true, ite_true, ite_false, false_implies, true_implies, implies_true, eq_self, ne_eq, ↓reduceIte, reduceIte, Nat.reducePow, Nat.reduceLT, Nat.reduceLeDiff, Nat.reduceEqDiff, Nat.reduceAdd, Nat.reduceMul, Nat.reduceSub, Nat.reduceBEq, Nat.reduceDiv, Nat.reduceMod, reduceCtorEq, sl1, wFacts, zA, qA, qC, nb_tf, nb_ft, nb_tt, nb_ff]
    refine call_fn cA rfl ?_
    simp only [↓wPre, wPost, wFast, wCore, beq_self_eq_true, ite_true, ite_false, false_implies, true_implies, implies_true, eq_self, ne_eq, ↓reduceIte, reduceIte, Nat.reducePow, Nat.reduceLT, Nat.reduceLeDiff, Nat.reduceEqDiff, Nat.reduceAdd, Nat.reduceMul, Nat.reduceSub, Nat.reduceBEq, Nat.reduceDiv, Nat.reduceMod, reduceCtorEq, sl1, wFacts, zA, qA, qC, nb_tf, nb_ft, nb_tt, nb_ff]
    refine call_fn cB rfl ?_
    simp only [↓wPre, wPost, wFast, wCore, beq_self_eq_true, ite_true, ite_false, false_implies, true_implies, implies_true, eq_self, ne_eq, ↓reduceIte, reduceIte, Nat.reducePow, Nat.reduceLT, Nat.reduceLeDiff, Nat.reduceEqDiff, Nat.reduceAdd, Nat.reduceMul, Nat.reduceSub, Nat.reduceBEq, Nat.reduceDiv, Nat.reduceMod, reduceCtorEq, sl1, wFacts, zA, qA, qC, nb_tf, nb_ft, nb_tt, nb_ff]
    refine call_fn c1 rfl ?_
    simp only [↓wPre, wPost, wFast, wCore, beq_self_eq_true, ite_true, ite_false, false_implies, true_implies, implies_true, eq_self, ne_eq, ↓reduceIte, reduceIte, Nat.reducePow, Nat.reduceLT, Nat.reduceLeDiff, Nat.reduceEqDiff, Nat.reduceAdd, Nat.reduceMul, Nat.reduceSub, Nat.reduceBEq, Nat.reduceDiv, Nat.reduceMod, reduceCtorEq, sl1, wFacts, zA, qA, qC, nb_tf, nb_ft, nb_tt, nb_ff]
    refine call_fn c2 rfl ?_
    simp only [↓wPre, wPost, wFast, wCore, beq_self_eq_true, ite_true, ite_false, false_implies, true_implies, implies_true, eq_self, ne_eq, ↓reduceIte, reduceIte, Nat.reducePow, Nat.reduceLT, Nat.reduceLeDiff, Nat.reduceEqDiff, Nat.reduceAdd, Nat.reduceMul, Nat.reduceSub, Nat.reduceBEq, Nat.reduceDiv, Nat.reduceMod, reduceCtorEq, sl1, wFacts, zA, qA, qC, nb_tf, nb_ft, nb_tt, nb_ff]
    refine call_fn c3 rfl ?_
    simp only [↓wPre, wPost, wFast, wCore, beq_self_eq_true, ite_true, ite_false, false_implies, true_implies, implies_true, eq_self, ne_eq, ↓reduceIte, reduceIte, Nat.reducePow, Nat.reduceLT, Nat.reduceLeDiff, Nat.reduceEqDiff, Nat.reduceAdd, Nat.reduceMul, Nat.reduceSub, Nat.reduceBEq, Nat.reduceDiv, Nat.reduceMod, reduceCtorEq, sl1, wFacts, zA, qA, qC, nb_tf, nb_ft, nb_tt, nb_ff]
    refine call_fn c4 rfl ?_
    simp only [↓wPre, wPost, wFast, wCore, beq_self_eq_true, ite_true, ite_false, false_implies, true_implies, implies_true, eq_self, ne_eq, ↓reduceIte, reduceIte, Nat.reducePow, Nat.reduceLT, Nat.reduceLeDiff, Nat.reduceEqDiff, Nat.reduceAdd, Nat.reduceMul, Nat.reduceSub, Nat.reduceBEq, Nat.reduceDiv, Nat.reduceMod, reduceCtorEq, sl1, wFacts, zA, qA, qC, nb_tf, nb_ft, nb_tt, nb_ff]
    refine call_fn c5 rfl ?_
    simp only [hR, ↓wPre, wPost, wFast, wCore, beq_self_eq_true, ite_true, ite_false, false_implies, true_implies, implies_true, eq_self, ne_eq, ↓reduceIte, reduceIte, Nat.reducePow, Nat.reduceLT, Nat.reduceLeDiff, Nat.reduceEqDiff, Nat.reduceAdd, Nat.reduceMul, Nat.reduceSub, Nat.reduceBEq, Nat.reduceDiv, Nat.reduceMod, reduceCtorEq, sl1, wFacts, zA, qA, qC, nb_tf, nb_ft, nb_tt, nb_ff]
    exact retA rfl ldk44 rfl rfl rfl sR (hR.trans rfl)
end
end Go.Ab.N

namespace Go.Ab.N
open Go Go.RowKit Go.Proofs
noncomputable section
set_option maxRecDepth 10000
set_option maxHeartbeats 2000000
set_option linter.unusedSimpArgs false
set_option linter.unusedVariables false
open Classical

theorem mul_low (a b : Rat) : Int.gcd ((Rat.divInt a.num b.den).num * (Rat.divInt b.num a.den).num) ((Rat.divInt a.num b.den).den * (Rat.divInt b.num a.den).den : Nat) = 1 ∧
    Rat.divInt ((Rat.divInt a.num b.den).num * (Rat.divInt b.num a.den).num) ((Rat.divInt a.num b.den).den * (Rat.divInt b.num a.den).den : Nat) = a * b := by
  have hda : (a.den : Int) ≠ 0 := by have := a.den_nz; omega
  have hdb : (b.den : Int) ≠ 0 := by have := b.den_nz; omega
  obtain ⟨m, m0, m1, m2⟩ := divInt_parts a.num b.den hdb
  obtain ⟨n, n0, n1, n2⟩ := divInt_parts b.num a.den hda
  have hx := (Rat.divInt a.num b.den).reduced
  have hy := (Rat.divInt b.num a.den).reduced
  have exy : Rat.divInt a.num b.den * Rat.divInt b.num a.den = a * b := by
    rw [Rat.divInt_mul_divInt, Rat.mul_def', mkRat_divInt]
    congr 1
    push_cast
    exact Int.mul_comm _ _
  obtain ⟨x, ex⟩ : ∃ x, x = Rat.divInt a.num b.den := ⟨_, rfl⟩
  obtain ⟨y, ey⟩ : ∃ y, y = Rat.divInt b.num a.den := ⟨_, rfl⟩
  rw [← ex] at hx m1 m2 exy ⊢
  rw [← ey] at hy n1 n2 exy ⊢
  have d1 : x.num.natAbs ∣ a.num.natAbs := by rw [m1, Int.natAbs_mul]; exact Nat.dvd_mul_right _ _
  have d2 : x.den ∣ b.den := by
    have : (b.den : Int).natAbs = x.den * m.natAbs := by rw [m2, Int.natAbs_mul, Int.natAbs_natCast]
    rw [Int.natAbs_natCast] at this
    rw [this]; exact Nat.dvd_mul_right _ _
  have d3 : y.num.natAbs ∣ b.num.natAbs := by rw [n1, Int.natAbs_mul]; exact Nat.dvd_mul_right _ _
  have d4 : y.den ∣ a.den := by
    have : (a.den : Int).natAbs = y.den * n.natAbs := by rw [n2, Int.natAbs_mul, Int.natAbs_natCast]
    rw [Int.natAbs_natCast] at this
    rw [this]; exact Nat.dvd_mul_right _ _
  have k1 : Nat.Coprime x.num.natAbs y.den := (a.reduced.coprime_dvd_left d1).coprime_dvd_right d4
  have k2 : Nat.Coprime y.num.natAbs x.den := (b.reduced.coprime_dvd_left d3).coprime_dvd_right d2
  refine ⟨?_, ?_⟩
  · unfold Int.gcd
    rw [Int.natAbs_mul, Int.natAbs_natCast]
    exact (hx.mul_right k1).mul_left (k2.mul_right hy)
  · rw [← exy]
    conv => rhs; rw [← Rat.num_divInt_den x, ← Rat.num_divInt_den y]
    rw [Rat.divInt_mul_divInt]
    push_cast; rfl
theorem rmul_fn (a b : Rat) (ha : qb a ≤ rm) (hb : qb b ≤ rm) : Fn Try.prog 83 [qA a, qA b] (qA (a * b)) := by
  unfold rm at ha hb
  have a1 := qb_num a; have a2 := qb_den a; have b1 := qb_num b; have b2 := qb_den b
  obtain ⟨R, hR⟩ : ∃ R, R = qA (a * b) := ⟨_, rfl⟩
  have sR : Settled R := hR ▸ settled_qA _
  have la := qd_lenI a
  have lb := qd_lenI b
  have na := num_lenI a
  have nb := num_lenI b
  have z0 : a = 0 ∨ b = 0 → R = .agg [.bool false, ints [], .bool false, ints []] := by
    intro h
    rw [hR, ← qA_zero]
    rcases h with rfl | rfl
    · rw [Rat.zero_mul]
    · rw [Rat.mul_zero]
  rw [← hR]
  by_cases ha0 : a = 0
  · have g1 : (a = 0) = True := eq_true ha0
    refine Fn.intro (fn := Try.f83) Try.call83 Try.func83 rfl mixed 7 [] [5, 60000002, 60000003] [] (by kernel_rfl) (Nat.le_of_ble_eq_true rfl) (by simp [settled_ints, settled_I, settled_fn0, settled_intss, settled_bool, settled_nil, settled_zA, settled_qA, settled_zR, settled_ofA, settled_int]) (vc_soundN 1000 ?_); simp (config := { maxSteps := 2000000 }) only [AS.start, ↓wPre, wPost, wFast, wCore, beq_self_eq_true, ite_true, ite_false, false_implies, true_implies, implies_true, eq_self, ne_eq, ↓reduceIte, reduceIte, Nat.reducePow, Nat.reduceLT, Nat.reduceLeDiff, Nat.reduceEqDiff, Nat.reduceAdd, Nat.reduceMul, Nat.reduceSub, Nat.reduceBEq, Nat.reduceDiv, Nat.reduceMod, reduceCtorEq, sl1, wFacts, zA, qA, qC, nb_tf, nb_ft, nb_tt, nb_ff]
    simp only [la, lb, na, nb, g1, ↓wPre, wPost, wFast, wCore, beq_self_eq_true, ite_true, ite_false, false_implies, true_implies, implies_true, eq_self, ne_eq, ↓reduceIte, reduceIte, Nat.reducePow, Nat.reduceLT, Nat.reduceLeDiff, Nat.reduceEqDiff, Nat.reduceAdd, Nat.reduceMul, Nat.reduceSub, Nat.reduceBEq, Nat.reduceDiv, Nat.reduceMod, reduceCtorEq, sl1, wFacts, zA, qA, qC, nb_tf, nb_ft, nb_tt, nb_ff]
    exact retRefE rfl ldk44 rfl rfl rfl (z0 (.inl ha0)) sR ⟨Weak.rfl' _, weak_emp _ _, Weak.rfl' _, weak_emp _ _, trivial⟩
  have g1 : (a = 0) = False := eq_false ha0
  by_cases hb0 : b = 0
  · have g2 : (b = 0) = True := eq_true hb0
    refine Fn.intro (fn := Try.f83) Try.call83 Try.func83 rfl mixed 7 [] [5, 60000002, 60000003] [] (by kernel_rfl) (Nat.le_of_ble_eq_true rfl) (by simp [settled_ints, settled_I, settled_fn0, settled_intss, settled_bool, settled_nil, settled_zA, settled_qA, settled_zR, settled_ofA, settled_int]) (vc_soundN 1000 ?_); simp (config := { maxSteps := 2000000 }) only [AS.start, ↓wPre, wPost, wFast, wCore, beq_self_eq_true, ite_true, ite_false, false_implies, true_implies, implies_true, eq_self, ne_eq, ↓reduceIte, reduceIte, Nat.reducePow, Nat.reduceLT, Nat.reduceLeDiff, Nat.reduceEqDiff, Nat.reduceAdd, Nat.reduceMul, Nat.reduceSub, Nat.reduceBEq, Nat.reduceDiv, Nat.reduceMod, reduceCtorEq, sl1, wFacts, zA, qA, qC, nb_tf, nb_ft, nb_tt, nb_ff]
    simp only [la, lb, na, nb, g1, g2, ↓wPre, wPost, wFast, wCore, beq_self_eq_true, ite_true, ite_false, false_implies, true_implies, implies_true, eq_self, ne_eq, ↓reduceIte, reduceIte, Nat.reducePow, Nat.reduceLT, Nat.reduceLeDiff, Nat.reduceEqDiff, Nat.reduceAdd, Nat.reduceMul, Nat.reduceSub, Nat.reduceBEq, Nat.reduceDiv, Nat.reduceMod, reduceCtorEq, sl1, wFacts, zA, qA, qC, nb_tf, nb_ft, nb_tt, nb_ff]
    exact retRefE rfl ldk44 rfl rfl rfl (z0 (.inr hb0)) sR ⟨Weak.rfl' _, weak_emp _ _, Weak.rfl' _, weak_emp _ _, trivial⟩
  have g2 : (b = 0) = False := eq_false hb0
  by_cases hi : a.den = 1 ∧ b.den = 1
  · have f1 : (a.den = 1) = True := eq_true hi.1
    have f2 : (b.den = 1) = True := eq_true hi.2
    obtain ⟨e1, e2⟩ := mul_int hi.1 hi.2
    have hR' := hR.trans (qA_int e2)
    rw [e1] at hR'
    refine Fn.intro (fn := Try.f83) Try.call83 Try.func83 rfl mixed 7 [] [5, 60000002, 60000003] [] (by kernel_rfl) (Nat.le_of_ble_eq_true rfl) (by simp [settled_ints, settled_I, settled_fn0, settled_intss, settled_bool, settled_nil, settled_zA, settled_qA, settled_zR, settled_ofA, settled_int]) (vc_soundN 1000 ?_); simp (config := { maxSteps := 2000000 }) only [AS.start, ↓wPre, wPost, wFast, wCore, beq_self_eq_true, ite_true, ite_false, false_implies, true_implies, implies_true, eq_self, ne_eq, ↓reduceIte, reduceIte, Nat.reducePow, Nat.reduceLT, Nat.reduceLeDiff, Nat.reduceEqDiff, Nat.reduceAdd, Nat.reduceMul, Nat.reduceSub, Nat.reduceBEq, Nat.reduceDiv, Nat.reduceMod, reduceCtorEq, sl1, wFacts, zA, qA, qC, nb_tf, nb_ft, nb_tt, nb_ff]
    simp only [la, lb, na, nb, g1, g2, f1, f2, ↓wPre, wPost, wFast, wCore, beq_self_eq_true, ite_true, ite_false, false_implies, true_implies, implies_true, eq_self, ne_eq, ↓reduceIte, reduceIte, Nat.reducePow, Nat.reduceLT, Nat.reduceLeDiff, Nat.reduceEqDiff, Nat.reduceAdd, Nat.reduceMul, Nat.reduceSub, Nat.reduceBEq, Nat.reduceDiv, Nat.reduceMod, reduceCtorEq, sl1, wFacts, zA, qA, qC, nb_tf, nb_ft, nb_tt, nb_ff]
    refine call_fn (mul_fn a.num b.num (by unfold room; omega) (by unfold room; omega)) rfl ?_
    simp only [↓wPre, wPost, wFast, wCore, beq_self_eq_true, ite_true, ite_false, false_implies, true_implies, implies_true, eq_self, ne_eq, ↓reduceIte, reduceIte, Nat.reducePow, Nat.reduceLT, Nat.reduceLeDiff, Nat.reduceEqDiff, Nat.reduceAdd, Nat.reduceMul, Nat.reduceSub, Nat.reduceBEq, Nat.reduceDiv, Nat.reduceMod, reduceCtorEq, sl1, wFacts, zA, qA, qC, nb_tf, nb_ft, nb_tt, nb_ff]
    exact retRefE rfl ldk44 rfl rfl rfl hR' sR ⟨Weak.rfl' _, Weak.rfl' _, Weak.rfl' _, weak_emp _ _, trivial⟩
  obtain ⟨e1, e2⟩ := mul_low a b
  have q1 := qb_divInt a.num b.den 100000000 (by omega) (by omega) (by omega)
  have q2 := qb_divInt b.num a.den 100000000 (by omega) (by omega) (by omega)
  have cA := den_fn a
  have cB := den_fn b
  have c1 := make_fn a.num b.den (by omega) (by omega)
  have c2 := make_fn b.num a.den (by omega) (by omega)
  obtain ⟨x, ex⟩ : ∃ x, x = Rat.divInt a.num b.den := ⟨_, rfl⟩
  obtain ⟨y, ey⟩ : ∃ y, y = Rat.divInt b.num a.den := ⟨_, rfl⟩
  rw [← ex] at c1 q1 e1 e2
  rw [← ey] at c2 q2 e1 e2
  have x1 := qb_num x; have x2 := qb_den x; have y1 := qb_num y; have y2 := qb_den y
  have c3 := mul_fn x.num y.num (by unfold room; omega) (by unfold room; omega)
  have c4 := mul_fn x.den y.den (by unfold room; omega) (by unfold room; omega)
  have hnn : (x.den : Int) * y.den ≠ 0 := Int.mul_ne_zero (by have := x.den_nz; omega) (by have := y.den_nz; omega)
  push_cast at e1 e2
  have c5 := lowest_fn (x.num * y.num) (x.den * y.den) hnn e1
  rw [e2, ← hR] at c5
  have cX := den_fn x
  have cY := den_fn y
  by_cases f : a.den = 1
  · have f1 : (a.den = 1) = True := eq_true f
    have f2 : (b.den = 1) = False := eq_false fun e => hi ⟨f, e⟩
    refine Fn.intro (fn := Try.f83) Try.call83 Try.func83 rfl mixed 7 [] [5, 60000002, 60000003] [] (by kernel_rfl) (Nat.le_of_ble_eq_true rfl) (by simp [settled_ints, settled_I, settled_fn0, settled_intss, settled_bool, settled_nil, settled_zA, settled_qA, settled_zR, settled_ofA, settled_int]) (vc_soundN 1000 ?_); simp (config := { maxSteps := 2000000 }) only [AS.start, ↓wPre, wPost, wFast, wCore, beq_self_eq_true, ite_true, ite_false, false_implies, true_implies, implies_true, eq_self, ne_eq, ↓reduceIte, reduceIte, Nat.reducePow, Nat.reduceLT, Nat.reduceLeDiff, Nat.reduceEqDiff, Nat.reduceAdd, Nat.reduceMul, Nat.reduceSub, Nat.reduceBEq, Nat.reduceDiv, Nat.reduceMod, reduceCtorEq, sl1, wFacts, zA, qA, qC, nb_tf, nb_ft, nb_tt, nb_ff]
    simp only [la, lb, na, nb, f1, f2, g1, g2, ↓wPre, wPost, wFast, wCore, beq_self_eq_true, ite_true, ite_false, false_implies, true_implies, implies_true, eq_self, ne_eq, ↓reduceIte, reduceIte, Nat.reducePow, Nat.reduceLT, Nat.reduceLeDiff, Nat.reduceEqDiff, Nat.reduceAdd, Nat.reduceMul, Nat.reduceSub, Nat.reduceBEq, Nat.reduceDiv, Nat.reduceMod, reduceCtorEq, sl1, wFacts, zA, qA, qC, nb_tf, nb_ft, nb_tt, nb_ff]
    refine call_fn cB rfl ?_
    simp only [↓wPre, wPost, wFast, wCore, beq_self_eq_true, ite_true, ite_false, false_implies, true_implies, implies_true, eq_self, ne_eq, ↓reduceIte, reduceIte, Nat.reducePow, Nat.reduceLT, Nat.reduceLeDiff, Nat.reduceEqDiff, Nat.reduceAdd, Nat.reduceMul, Nat.reduceSub, Nat.reduceBEq, Nat.reduceDiv, Nat.reduceMod, reduceCtorEq, sl1, wFacts, zA, qA, qC, nb_tf, nb_ft, nb_tt, nb_ff]
    refine call_fn c1 rfl ?_
    simp only [↓wPre, wPost, wFast, wCore, beq_self_eq_true, ite_true, ite_false, false_implies, true_implies, implies_true, eq_self, ne_eq, ↓reduceIte, reduceIte, Nat.reducePow, Nat.reduceLT, Nat.reduceLeDiff, Nat.reduceEqDiff, Nat.reduceAdd, Nat.reduceMul, Nat.reduceSub, Nat.reduceBEq, Nat.reduceDiv, Nat.reduceMod, reduceCtorEq, sl1, wFacts, zA, qA, qC, nb_tf, nb_ft, nb_tt, nb_ff]
    refine call_fn cA rfl ?_
    simp only [↓wPre, wPost, wFast, wCore, beq_self_eq_true, ite_true, ite_false, false_implies, true_implies, implies_true, eq_self, ne_eq, ↓reduceIte, reduceIte, Nat.reducePow, Nat.reduceLT, Nat.reduceLeDiff, Nat.reduceEqDiff, Nat.reduceAdd, Nat.reduceMul, Nat.reduceSub, Nat.reduceBEq, Nat.reduceDiv, Nat.reduceMod, reduceCtorEq, sl1, wFacts, zA, qA, qC, nb_tf, nb_ft, nb_tt, nb_ff]
    refine call_fn c2 rfl ?_
    simp only [↓wPre, wPost, wFast, wCore, beq_self_eq_true, ite_true, ite_false, false_implies, true_implies, implies_true, eq_self, ne_eq, ↓reduceIte, reduceIte, Nat.reducePow, Nat.reduceLT, Nat.reduceLeDiff, Nat.reduceEqDiff, Nat.reduceAdd, Nat.reduceMul, Nat.reduceSub, Nat.reduceBEq, Nat.reduceDiv, Nat.reduceMod, reduceCtorEq, sl1, wFacts, zA, qA, qC, nb_tf, nb_ft, nb_tt, nb_ff]
    refine call_fn c3 rfl ?_
    simp only [↓wPre, wPost, wFast, wCore, beq_self_eq_true, ite_true, ite_false, false_implies, true_implies, implies_true, eq_self, ne_eq, ↓reduceIte, reduceIte, Nat.reducePow, Nat.reduceLT, Nat.reduceLeDiff, Nat.reduceEqDiff, Nat.reduceAdd, Nat.reduceMul, Nat.reduceSub, Nat.reduceBEq, Nat.reduceDiv, Nat.reduceMod, reduceCtorEq, sl1, wFacts, zA, qA, qC, nb_tf, nb_ft, nb_tt, nb_ff]
    refine call_fn cX rfl ?_
    simp only [↓wPre, wPost, wFast, wCore, beq_self_eq_true, ite_true, ite_false, false_implies, true_implies, implies_true, eq_self, ne_eq, ↓reduceIte, reduceIte, Nat.reducePow, Nat.reduceLT, Nat.reduceLeDiff, Nat.reduceEqDiff, Nat.reduceAdd, Nat.reduceMul, Nat.reduceSub, Nat.reduceBEq, Nat.reduceDiv, Nat.reduceMod, reduceCtorEq, sl1, wFacts, zA, qA, qC, nb_tf, nb_ft, nb_tt, nb_ff]
    refine call_fn cY rfl ?_
    simp only [↓wPre, wPost, wFast, wCore, beq_self_eq_true, ite_true, ite_false, false_implies, true_implies, implies_true, eq_self, ne_eq, ↓reduceIte, reduceIte, Nat.reducePow, Nat.reduceLT, Nat.reduceLeDiff, Nat.reduceEqDiff, Nat.reduceAdd, Nat.reduceMul, Nat.reduceSub, Nat.reduceBEq, Nat.reduceDiv, Nat.reduceMod, reduceCtorEq, sl1, wFacts, zA, qA, qC, nb_tf, nb_ft, nb_tt, nb_ff]
    refine call_fn c4 rfl ?_
    simp only [↓wPre, wPost, wFast, wCore, beq_self_eq_true, ite_true, ite_false, false_implies, true_implies, implies_true, eq_self, ne_eq, ↓reduceIte, reduceIte, Nat.reducePow, Nat.reduceLT, Nat.reduceLeDiff, Nat.reduceEqDiff, Nat.reduceAdd, Nat.reduceMul, Nat.reduceSub, Nat.reduceBEq, Nat.reduceDiv, Nat.reduceMod, reduceCtorEq, sl1, wFacts, zA, qA, qC, nb_tf, nb_ft, nb_tt, nb_ff]
    refine call_fn c5 rfl ?_
    simp only [hR, ↓wPre, wPost, wFast, wCore, beq_self_eq_true, ite_true, ite_false, false_implies, true_implies, implies_true, eq_self, ne_eq, ↓reduceIte, reduceIte, Nat.reducePow, Nat.reduceLT, Nat.reduceLeDiff, Nat.reduceEqDiff, Nat.reduceAdd, Nat.reduceMul, Nat.reduceSub, Nat.reduceBEq, Nat.reduceDiv, Nat.reduceMod, reduceCtorEq, sl1, wFacts, zA, qA, qC, nb_tf, nb_ft, nb_tt, nb_ff]
    exact retA rfl ldk44 rfl rfl rfl sR (hR.trans rfl)
  · have f1 : (a.den = 1) = False := eq_false f
    have f2 : True = True := rfl
    refine Fn.intro (fn := Try.f83) Try.call83 Try.func83 rfl mixed 7 [] [5, 60000002, 60000003] [] (by kernel_rfl) (Nat.le_of_ble_eq_true rfl) (by simp [settled_ints, settled_I, settled_fn0, settled_intss, settled_bool, settled_nil, settled_zA, settled_qA, settled_zR, settled_ofA, settled_int]) (vc_soundN 1000 ?_); simp (config := { maxSteps := 2000000 }) only [AS.start, ↓wPre, wPost, wFast, wCore, beq_self_eq_true, ite_true, ite_false, false_implies, true_implies, implies_true, eq_self, ne_eq, ↓reduceIte, reduceIte, Nat.reducePow, Nat.reduceLT, Nat.reduceLeDiff, Nat.reduceEqDiff, Nat.reduceAdd, Nat.reduceMul, Nat.reduceSub, Nat.reduceBEq, Nat.reduceDiv, Nat.reduceMod, reduceCtorEq, sl1, wFacts, zA, qA, qC, nb_tf, nb_ft, nb_tt, nb_ff]
    simp only [la, lb, na, nb, f1, f2, g1, g2, ↓wPre, wPost, wFast, wCore, beq_self_eq_true, ite_true, ite_false, false_implies, true_implies, implies_true, eq_self, ne_eq, ↓reduceIte, reduceIte, Nat.reducePow, Nat.reduceLT, Nat.reduceLeDiff, Nat.reduceEqDiff, Nat.reduceAdd, Nat.reduceMul, Nat.reduceSub, Nat.reduceBEq, Nat.reduceDiv, Nat.reduceMod, reduceCtorEq, sl1, wFacts, zA, qA, qC, nb_tf, nb_ft, nb_tt, nb_ff]
    refine call_fn cB rfl ?_
    simp only [↓wPre, wPost, wFast, wCore, beq_self_eq_true, ite_true, ite_false, false_implies, true_implies, implies_true, eq_self, ne_eq, ↓reduceIte, reduceIte, Nat.reducePow, Nat.reduceLT, Nat.reduceLeDiff, Nat.reduceEqDiff, Nat.reduceAdd, Nat.reduceMul, Nat.reduceSub, Nat.reduceBEq, Nat.reduceDiv, Nat.reduceMod, reduceCtorEq, sl1, wFacts, zA, qA, qC, nb_tf, nb_ft, nb_tt, nb_ff]
    refine call_fn c1 rfl ?_
    simp only [↓wPre, wPost, wFast, wCore, beq_self_eq_true, ite_true, ite_false, false_implies, true_implies, implies_true, eq_self, ne_eq, ↓reduceIte, reduceIte, Nat.reducePow, Nat.reduceLT, Nat.reduceLeDiff, Nat.reduceEqDiff, Nat.reduceAdd, Nat.reduceMul, Nat.reduceSub, Nat.reduceBEq, Nat.reduceDiv, Nat.reduceMod, reduceCtorEq, sl1, wFacts, zA, qA, qC, nb_tf, nb_ft, nb_tt, nb_ff]
    refine call_fn cA rfl ?_
    simp only [↓wPre, wPost, wFast, wCore, beq_self_eq_true, ite_true, ite_false, false_implies, true_implies, implies_true, eq_self, ne_eq, ↓reduceIte, reduceIte, Nat.reducePow, Nat.reduceLT, Nat.reduceLeDiff, Nat.reduceEqDiff, Nat.reduceAdd, Nat.reduceMul, Nat.reduceSub, Nat.reduceBEq, Nat.reduceDiv, Nat.reduceMod, reduceCtorEq, sl1, wFacts, zA, qA, qC, nb_tf, nb_ft, nb_tt, nb_ff]
    refine call_fn c2 rfl ?_
    simp only [↓wPre, wPost, wFast, wCore, beq_self_eq_true, ite_true, ite_false, false_implies, true_implies, implies_true, eq_self, ne_eq, ↓reduceIte, reduceIte, Nat.reducePow, Nat.reduceLT, Nat.reduceLeDiff, Nat.reduceEqDiff, Nat.reduceAdd, Nat.reduceMul, Nat.reduceSub, Nat.reduceBEq, Nat.reduceDiv, Nat.reduceMod, reduceCtorEq, sl1, wFacts, zA, qA, qC, nb_tf, nb_ft, nb_tt, nb_ff]
    refine call_fn c3 rfl ?_
    simp only [↓wPre, wPost, wFast, wCore, beq_self_eq_true, ite_true, ite_false, false_implies, true_implies, implies_true, eq_self, ne_eq, ↓reduceIte, reduceIte, Nat.reducePow, Nat.reduceLT, Nat.reduceLeDiff, Nat.reduceEqDiff, Nat.reduceAdd, Nat.reduceMul, Nat.reduceSub, Nat.reduceBEq, Nat.reduceDiv, Nat.reduceMod, reduceCtorEq, sl1, wFacts, zA, qA, qC, nb_tf, nb_ft, nb_tt, nb_ff]
    refine call_fn cX rfl ?_
    simp only [↓wPre, wPost, wFast, wCore, beq_self_eq_true, ite_true, ite_false, false_implies, true_implies, implies_true, eq_self, ne_eq, ↓reduceIte, reduceIte, Nat.reducePow, Nat.reduceLT, Nat.reduceLeDiff, Nat.reduceEqDiff, Nat.reduceAdd, Nat.reduceMul, Nat.reduceSub, Nat.reduceBEq, Nat.reduceDiv, Nat.reduceMod, reduceCtorEq, sl1, wFacts, zA, qA, qC, nb_tf, nb_ft, nb_tt, nb_ff]
    refine call_fn cY rfl ?_
    simp only [↓wPre, wPost, wFast, wCore, beq_self_eq_true, ite_true, ite_false, false_implies, true_implies, implies_true, eq_self, ne_eq, ↓reduceIte, reduceIte, Nat.reducePow, Nat.reduceLT, Nat.reduceLeDiff, Nat.reduceEqDiff, Nat.reduceAdd, Nat.reduceMul, Nat.reduceSub, Nat.reduceBEq, Nat.reduceDiv, Nat.reduceMod, reduceCtorEq, sl1, wFacts, zA, qA, qC, nb_tf, nb_ft, nb_tt, nb_ff]
    refine call_fn c4 rfl ?_
    simp only [↓wPre, wPost, wFast, wCore, beq_self_eq_true, ite_true, ite_false, false_implies, true_implies, implies_true, eq_self, ne_eq, ↓reduceIte, reduceIte, Nat.reducePow, Nat.reduceLT, Nat.reduceLeDiff, Nat.reduceEqDiff, Nat.reduceAdd, Nat.reduceMul, Nat.reduceSub, Nat.reduceBEq, Nat.reduceDiv, Nat.reduceMod, reduceCtorEq, sl1, wFacts, zA, qA, qC, nb_tf, nb_ft, nb_tt, nb_ff]
    refine call_fn c5 rfl ?_
    simp only [hR, ↓wPre, wPost, wFast, wCore, beq_self_eq_true, ite_true, ite_false, false_implies, true_implies, implies_true, eq_self, ne_eq, ↓reduceIte, reduceIte, Nat.reducePow, Nat.reduceLT, Nat.reduceLeDiff, Nat.reduceEqDiff, Nat.reduceAdd, Nat.reduceMul, Nat.reduceSub, Nat.reduceBEq, Nat.reduceDiv, Nat.reduceMod, reduceCtorEq, sl1, wFacts, zA, qA, qC, nb_tf, nb_ft, nb_tt, nb_ff]
    exact retA rfl ldk44 rfl rfl rfl sR (hR.trans rfl)
theorem rsub_fn (a b : Rat) (ha : qb a ≤ rm) (hb : qb b ≤ rm) : Fn Try.prog 92 [qA a, qA b] (qA (a - b)) := by
  obtain ⟨R, hR⟩ : ∃ R, R = qA (a - b) := ⟨_, rfl⟩
  have sR : Settled R := hR ▸ settled_qA _
  have c := radd_fn a (-b) ha (by rw [qb_neg]; exact hb)
  rw [← Rat.sub_eq_add_neg, ← hR] at c
  rw [← hR]
  refine Fn.intro (fn := Try.f92) Try.call92 Try.func92 rfl mixed 5 [] [] [] (by kernel_rfl) (Nat.le_of_ble_eq_true rfl) (by simp [settled_ints, settled_I, settled_fn0, settled_intss, settled_bool, settled_nil, settled_zA, settled_qA, settled_zR, settled_ofA, settled_int]) (vc_soundN 1000 ?_); simp (config := { maxSteps := 2000000 }) only [AS.start, ↓wPre, wPost, wFast, wCore, beq_self_eq_true, ite_true, ite_false, false_implies, true_implies, implies_true, eq_self, ne_eq, ↓reduceIte, reduceIte, Nat.reducePow, Nat.reduceLT, Nat.reduceLeDiff, Nat.reduceEqDiff, Nat.reduceAdd, Nat.reduceMul, Nat.reduceSub, Nat.reduceBEq, Nat.reduceDiv, Nat.reduceMod, reduceCtorEq, sl1, wFacts, zA, qA, qC, nb_tf, nb_ft, nb_tt, nb_ff]
  refine call_fn (rneg_fn b) rfl ?_
  simp only [↓wPre, wPost, wFast, wCore, beq_self_eq_true, ite_true, ite_false, false_implies, true_implies, implies_true, eq_self, ne_eq, ↓reduceIte, reduceIte, Nat.reducePow, Nat.reduceLT, Nat.reduceLeDiff, Nat.reduceEqDiff, Nat.reduceAdd, Nat.reduceMul, Nat.reduceSub, Nat.reduceBEq, Nat.reduceDiv, Nat.reduceMod, reduceCtorEq, sl1, wFacts, zA, qA, qC, nb_tf, nb_ft, nb_tt, nb_ff]
  refine call_fn c rfl ?_
  simp only [hR, ↓wPre, wPost, wFast, wCore, beq_self_eq_true, ite_true, ite_false, false_implies, true_implies, implies_true, eq_self, ne_eq, ↓reduceIte, reduceIte, Nat.reducePow, Nat.reduceLT, Nat.reduceLeDiff, Nat.reduceEqDiff, Nat.reduceAdd, Nat.reduceMul, Nat.reduceSub, Nat.reduceBEq, Nat.reduceDiv, Nat.reduceMod, reduceCtorEq, sl1, wFacts, zA, qA, qC, nb_tf, nb_ft, nb_tt, nb_ff]
  exact retA rfl ldk44 rfl rfl rfl sR (hR.trans rfl)
/-- How two numbers compare. -/
def qcmp (a b : Rat) : Int := (a.num * b.den - b.num * a.den).sign
theorem sign_den (n : Int) (d : Nat) (h : d ≠ 0) : (n * d).sign = n.sign := by
  rw [Int.sign_mul, Int.sign_eq_one_of_pos (show (0 : Int) < d by omega), Int.mul_one]
theorem qcmp_signs (a b : Rat) (h : a.num.sign ≠ b.num.sign ∨ a.num.sign = 0) : (a.num.sign - b.num.sign).sign = qcmp a b := by
  unfold qcmp
  have h1 := sign_den a.num b.den b.den_nz
  have h2 := sign_den b.num a.den a.den_nz
  generalize a.num * (b.den : Int) = x at *
  generalize b.num * (a.den : Int) = y at *
  rw [← h1, ← h2] at h ⊢
  rcases Int.lt_trichotomy x 0 with hx | hx | hx <;> rcases Int.lt_trichotomy y 0 with hy | hy | hy
  all_goals
    first
      | rw [Int.sign_eq_neg_one_of_neg hx] at h ⊢
      | rw [Int.sign_eq_one_of_pos hx] at h ⊢
      | subst hx
    first
      | rw [Int.sign_eq_neg_one_of_neg hy] at h ⊢
      | rw [Int.sign_eq_one_of_pos hy] at h ⊢
      | subst hy
  all_goals first
    | (exfalso; revert h; decide)
    | rfl
    | (symm; exact Int.sign_eq_neg_one_of_neg (by omega))
    | (symm; exact Int.sign_eq_one_of_pos (by omega))
theorem qcmp_lt (a b : Rat) : qcmp a b < 0 ↔ a < b := by unfold qcmp; rw [Int.sign_neg_iff, Rat.lt_iff]; omega
theorem qcmp_gt (a b : Rat) : 0 < qcmp a b ↔ b < a := by unfold qcmp; rw [Int.sign_pos_iff, Rat.lt_iff]; omega
theorem qcmp_le (a b : Rat) : qcmp a b ≤ 0 ↔ a ≤ b := by rw [← Rat.not_lt, ← qcmp_gt]; omega
theorem qcmp_ge (a b : Rat) : 0 ≤ qcmp a b ↔ b ≤ a := by rw [← Rat.not_lt, ← qcmp_lt]; omega
theorem rcompare_fn (a b : Rat) (ha : qb a ≤ rm) (hb : qb b ≤ rm) : Fn Try.prog 26 [qA a, qA b] (I (qcmp a b)) := by
  unfold rm at ha hb
  have a1 := qb_num a; have a2 := qb_den a; have b1 := qb_num b; have b2 := qb_den b
  have m1 := bl_mul a.num b.den
  have m2 := bl_mul b.num a.den
  have i64 : ∀ n : Int, in64 n.sign := fun n => by
    rcases Int.lt_trichotomy n 0 with h | h | h
    · rw [Int.sign_eq_neg_one_of_neg h]; exact ⟨by omega, by omega⟩
    · rw [h]; exact ⟨by decide, by decide⟩
    · rw [Int.sign_eq_one_of_pos h]; exact ⟨by omega, by omega⟩
  have bs : ∀ n : Int, bl n.sign < 1000000000 := fun n => by have := bl_i64 (i64 n); omega
  obtain ⟨V, hV⟩ : ∃ V, V = qcmp a b := ⟨_, rfl⟩
  rw [← hV]
  by_cases h : a.num.sign ≠ b.num.sign ∨ a.num.sign = 0
  · have c0 := icompare_fn a.num.sign b.num.sign (bs _) (bs _)
    rw [qcmp_signs a b h, ← hV] at c0
    by_cases h1 : a.num.sign = b.num.sign
    · have f1 : (a.num.sign = b.num.sign) = True := eq_true h1
      have f2 : (a.num.sign = 0) = True := eq_true (h.resolve_left fun e => e h1)
      have f2' : (b.num.sign = 0) = True := eq_true (h1 ▸ of_eq_true f2)
      refine Fn.intro (fn := Try.f26) Try.call26 Try.func26 rfl mixed 7 [] [] [] (by kernel_rfl) (Nat.le_of_ble_eq_true rfl) (by simp [settled_ints, settled_I, settled_fn0, settled_intss, settled_bool, settled_nil, settled_zA, settled_qA, settled_zR, settled_ofA, settled_int]) (vc_soundN 1000 ?_); simp (config := { maxSteps := 2000000 }) only [AS.start, ↓wPre, wPost, wFast, wCore, beq_self_eq_true, ite_true, ite_false, false_implies, true_implies, implies_true, eq_self, ne_eq, ↓reduceIte, reduceIte, Nat.reducePow, Nat.reduceLT, Nat.reduceLeDiff, Nat.reduceEqDiff, Nat.reduceAdd, Nat.reduceMul, Nat.reduceSub, Nat.reduceBEq, Nat.reduceDiv, Nat.reduceMod, reduceCtorEq, sl1, wFacts, zA, qA, qC, nb_tf, nb_ft, nb_tt, nb_ff]
      refine call_fn (rsign_fn a) rfl ?_
      simp only [↓wPre, wPost, wFast, wCore, beq_self_eq_true, ite_true, ite_false, false_implies, true_implies, implies_true, eq_self, ne_eq, ↓reduceIte, reduceIte, Nat.reducePow, Nat.reduceLT, Nat.reduceLeDiff, Nat.reduceEqDiff, Nat.reduceAdd, Nat.reduceMul, Nat.reduceSub, Nat.reduceBEq, Nat.reduceDiv, Nat.reduceMod, reduceCtorEq, sl1, wFacts, zA, qA, qC, nb_tf, nb_ft, nb_tt, nb_ff]
      refine call_fn (rsign_fn b) rfl ?_
      simp only [f1, f2, f2', ↓wPre, wPost, wFast, wCore, beq_self_eq_true, ite_true, ite_false, false_implies, true_implies, implies_true, eq_self, ne_eq, ↓reduceIte, reduceIte, Nat.reducePow, Nat.reduceLT, Nat.reduceLeDiff, Nat.reduceEqDiff, Nat.reduceAdd, Nat.reduceMul, Nat.reduceSub, Nat.reduceBEq, Nat.reduceDiv, Nat.reduceMod, reduceCtorEq, sl1, wFacts, zA, qA, qC, nb_tf, nb_ft, nb_tt, nb_ff]
      refine call_fn (oof_fn _ (i64 a.num)) rfl ?_
      simp only [↓wPre, wPost, wFast, wCore, beq_self_eq_true, ite_true, ite_false, false_implies, true_implies, implies_true, eq_self, ne_eq, ↓reduceIte, reduceIte, Nat.reducePow, Nat.reduceLT, Nat.reduceLeDiff, Nat.reduceEqDiff, Nat.reduceAdd, Nat.reduceMul, Nat.reduceSub, Nat.reduceBEq, Nat.reduceDiv, Nat.reduceMod, reduceCtorEq, sl1, wFacts, zA, qA, qC, nb_tf, nb_ft, nb_tt, nb_ff]
      refine call_fn (oof_fn _ (i64 b.num)) rfl ?_
      simp only [↓wPre, wPost, wFast, wCore, beq_self_eq_true, ite_true, ite_false, false_implies, true_implies, implies_true, eq_self, ne_eq, ↓reduceIte, reduceIte, Nat.reducePow, Nat.reduceLT, Nat.reduceLeDiff, Nat.reduceEqDiff, Nat.reduceAdd, Nat.reduceMul, Nat.reduceSub, Nat.reduceBEq, Nat.reduceDiv, Nat.reduceMod, reduceCtorEq, sl1, wFacts, zA, qA, qC, nb_tf, nb_ft, nb_tt, nb_ff]
      refine call_fn c0 rfl ?_
      simp only [↓wPre, wPost, wFast, wCore, beq_self_eq_true, ite_true, ite_false, false_implies, true_implies, implies_true, eq_self, ne_eq, ↓reduceIte, reduceIte, Nat.reducePow, Nat.reduceLT, Nat.reduceLeDiff, Nat.reduceEqDiff, Nat.reduceAdd, Nat.reduceMul, Nat.reduceSub, Nat.reduceBEq, Nat.reduceDiv, Nat.reduceMod, reduceCtorEq, sl1, wFacts, zA, qA, qC, nb_tf, nb_ft, nb_tt, nb_ff]
      exact ret1E rfl rfl (settled_I _) rfl
    · have f1 : (a.num.sign = b.num.sign) = False := eq_false h1
      refine Fn.intro (fn := Try.f26) Try.call26 Try.func26 rfl mixed 7 [] [] [] (by kernel_rfl) (Nat.le_of_ble_eq_true rfl) (by simp [settled_ints, settled_I, settled_fn0, settled_intss, settled_bool, settled_nil, settled_zA, settled_qA, settled_zR, settled_ofA, settled_int]) (vc_soundN 1000 ?_); simp (config := { maxSteps := 2000000 }) only [AS.start, ↓wPre, wPost, wFast, wCore, beq_self_eq_true, ite_true, ite_false, false_implies, true_implies, implies_true, eq_self, ne_eq, ↓reduceIte, reduceIte, Nat.reducePow, Nat.reduceLT, Nat.reduceLeDiff, Nat.reduceEqDiff, Nat.reduceAdd, Nat.reduceMul, Nat.reduceSub, Nat.reduceBEq, Nat.reduceDiv, Nat.reduceMod, reduceCtorEq, sl1, wFacts, zA, qA, qC, nb_tf, nb_ft, nb_tt, nb_ff]
      refine call_fn (rsign_fn a) rfl ?_
      simp only [↓wPre, wPost, wFast, wCore, beq_self_eq_true, ite_true, ite_false, false_implies, true_implies, implies_true, eq_self, ne_eq, ↓reduceIte, reduceIte, Nat.reducePow, Nat.reduceLT, Nat.reduceLeDiff, Nat.reduceEqDiff, Nat.reduceAdd, Nat.reduceMul, Nat.reduceSub, Nat.reduceBEq, Nat.reduceDiv, Nat.reduceMod, reduceCtorEq, sl1, wFacts, zA, qA, qC, nb_tf, nb_ft, nb_tt, nb_ff]
      refine call_fn (rsign_fn b) rfl ?_
      simp only [f1, ↓wPre, wPost, wFast, wCore, beq_self_eq_true, ite_true, ite_false, false_implies, true_implies, implies_true, eq_self, ne_eq, ↓reduceIte, reduceIte, Nat.reducePow, Nat.reduceLT, Nat.reduceLeDiff, Nat.reduceEqDiff, Nat.reduceAdd, Nat.reduceMul, Nat.reduceSub, Nat.reduceBEq, Nat.reduceDiv, Nat.reduceMod, reduceCtorEq, sl1, wFacts, zA, qA, qC, nb_tf, nb_ft, nb_tt, nb_ff]
      refine call_fn (oof_fn _ (i64 a.num)) rfl ?_
      simp only [↓wPre, wPost, wFast, wCore, beq_self_eq_true, ite_true, ite_false, false_implies, true_implies, implies_true, eq_self, ne_eq, ↓reduceIte, reduceIte, Nat.reducePow, Nat.reduceLT, Nat.reduceLeDiff, Nat.reduceEqDiff, Nat.reduceAdd, Nat.reduceMul, Nat.reduceSub, Nat.reduceBEq, Nat.reduceDiv, Nat.reduceMod, reduceCtorEq, sl1, wFacts, zA, qA, qC, nb_tf, nb_ft, nb_tt, nb_ff]
      refine call_fn (oof_fn _ (i64 b.num)) rfl ?_
      simp only [↓wPre, wPost, wFast, wCore, beq_self_eq_true, ite_true, ite_false, false_implies, true_implies, implies_true, eq_self, ne_eq, ↓reduceIte, reduceIte, Nat.reducePow, Nat.reduceLT, Nat.reduceLeDiff, Nat.reduceEqDiff, Nat.reduceAdd, Nat.reduceMul, Nat.reduceSub, Nat.reduceBEq, Nat.reduceDiv, Nat.reduceMod, reduceCtorEq, sl1, wFacts, zA, qA, qC, nb_tf, nb_ft, nb_tt, nb_ff]
      refine call_fn c0 rfl ?_
      simp only [↓wPre, wPost, wFast, wCore, beq_self_eq_true, ite_true, ite_false, false_implies, true_implies, implies_true, eq_self, ne_eq, ↓reduceIte, reduceIte, Nat.reducePow, Nat.reduceLT, Nat.reduceLeDiff, Nat.reduceEqDiff, Nat.reduceAdd, Nat.reduceMul, Nat.reduceSub, Nat.reduceBEq, Nat.reduceDiv, Nat.reduceMod, reduceCtorEq, sl1, wFacts, zA, qA, qC, nb_tf, nb_ft, nb_tt, nb_ff]
      exact ret1E rfl rfl (settled_I _) rfl
  · have h1 : a.num.sign = b.num.sign := Classical.byContradiction fun e => h (.inl e)
    have h2 : ¬ a.num.sign = 0 := fun e => h (.inr e)
    have f1 : (a.num.sign = b.num.sign) = True := eq_true h1
    have f2 : (a.num.sign = 0) = False := eq_false h2
    have c0 := icompare_fn (a.num * b.den) (b.num * a.den) (by omega) (by omega)
    rw [show (a.num * b.den - b.num * a.den).sign = V from hV.symm] at c0
    refine Fn.intro (fn := Try.f26) Try.call26 Try.func26 rfl mixed 7 [] [] [] (by kernel_rfl) (Nat.le_of_ble_eq_true rfl) (by simp [settled_ints, settled_I, settled_fn0, settled_intss, settled_bool, settled_nil, settled_zA, settled_qA, settled_zR, settled_ofA, settled_int]) (vc_soundN 1000 ?_); simp (config := { maxSteps := 2000000 }) only [AS.start, ↓wPre, wPost, wFast, wCore, beq_self_eq_true, ite_true, ite_false, false_implies, true_implies, implies_true, eq_self, ne_eq, ↓reduceIte, reduceIte, Nat.reducePow, Nat.reduceLT, Nat.reduceLeDiff, Nat.reduceEqDiff, Nat.reduceAdd, Nat.reduceMul, Nat.reduceSub, Nat.reduceBEq, Nat.reduceDiv, Nat.reduceMod, reduceCtorEq, sl1, wFacts, zA, qA, qC, nb_tf, nb_ft, nb_tt, nb_ff]
    refine call_fn (rsign_fn a) rfl ?_
    simp only [↓wPre, wPost, wFast, wCore, beq_self_eq_true, ite_true, ite_false, false_implies, true_implies, implies_true, eq_self, ne_eq, ↓reduceIte, reduceIte, Nat.reducePow, Nat.reduceLT, Nat.reduceLeDiff, Nat.reduceEqDiff, Nat.reduceAdd, Nat.reduceMul, Nat.reduceSub, Nat.reduceBEq, Nat.reduceDiv, Nat.reduceMod, reduceCtorEq, sl1, wFacts, zA, qA, qC, nb_tf, nb_ft, nb_tt, nb_ff]
    refine call_fn (rsign_fn b) rfl ?_
    simp only [f1, f2, ↓wPre, wPost, wFast, wCore, beq_self_eq_true, ite_true, ite_false, false_implies, true_implies, implies_true, eq_self, ne_eq, ↓reduceIte, reduceIte, Nat.reducePow, Nat.reduceLT, Nat.reduceLeDiff, Nat.reduceEqDiff, Nat.reduceAdd, Nat.reduceMul, Nat.reduceSub, Nat.reduceBEq, Nat.reduceDiv, Nat.reduceMod, reduceCtorEq, sl1, wFacts, zA, qA, qC, nb_tf, nb_ft, nb_tt, nb_ff]
    refine call_fn (den_fn b) rfl ?_
    simp only [↓wPre, wPost, wFast, wCore, beq_self_eq_true, ite_true, ite_false, false_implies, true_implies, implies_true, eq_self, ne_eq, ↓reduceIte, reduceIte, Nat.reducePow, Nat.reduceLT, Nat.reduceLeDiff, Nat.reduceEqDiff, Nat.reduceAdd, Nat.reduceMul, Nat.reduceSub, Nat.reduceBEq, Nat.reduceDiv, Nat.reduceMod, reduceCtorEq, sl1, wFacts, zA, qA, qC, nb_tf, nb_ft, nb_tt, nb_ff]
    refine call_fn (mul_fn a.num b.den (by unfold room; omega) (by unfold room; omega)) rfl ?_
    simp only [↓wPre, wPost, wFast, wCore, beq_self_eq_true, ite_true, ite_false, false_implies, true_implies, implies_true, eq_self, ne_eq, ↓reduceIte, reduceIte, Nat.reducePow, Nat.reduceLT, Nat.reduceLeDiff, Nat.reduceEqDiff, Nat.reduceAdd, Nat.reduceMul, Nat.reduceSub, Nat.reduceBEq, Nat.reduceDiv, Nat.reduceMod, reduceCtorEq, sl1, wFacts, zA, qA, qC, nb_tf, nb_ft, nb_tt, nb_ff]
    refine call_fn (den_fn a) rfl ?_
    simp only [↓wPre, wPost, wFast, wCore, beq_self_eq_true, ite_true, ite_false, false_implies, true_implies, implies_true, eq_self, ne_eq, ↓reduceIte, reduceIte, Nat.reducePow, Nat.reduceLT, Nat.reduceLeDiff, Nat.reduceEqDiff, Nat.reduceAdd, Nat.reduceMul, Nat.reduceSub, Nat.reduceBEq, Nat.reduceDiv, Nat.reduceMod, reduceCtorEq, sl1, wFacts, zA, qA, qC, nb_tf, nb_ft, nb_tt, nb_ff]
    refine call_fn (mul_fn b.num a.den (by unfold room; omega) (by unfold room; omega)) rfl ?_
    simp only [↓wPre, wPost, wFast, wCore, beq_self_eq_true, ite_true, ite_false, false_implies, true_implies, implies_true, eq_self, ne_eq, ↓reduceIte, reduceIte, Nat.reducePow, Nat.reduceLT, Nat.reduceLeDiff, Nat.reduceEqDiff, Nat.reduceAdd, Nat.reduceMul, Nat.reduceSub, Nat.reduceBEq, Nat.reduceDiv, Nat.reduceMod, reduceCtorEq, sl1, wFacts, zA, qA, qC, nb_tf, nb_ft, nb_tt, nb_ff]
    refine call_fn c0 rfl ?_
    simp only [↓wPre, wPost, wFast, wCore, beq_self_eq_true, ite_true, ite_false, false_implies, true_implies, implies_true, eq_self, ne_eq, ↓reduceIte, reduceIte, Nat.reducePow, Nat.reduceLT, Nat.reduceLeDiff, Nat.reduceEqDiff, Nat.reduceAdd, Nat.reduceMul, Nat.reduceSub, Nat.reduceBEq, Nat.reduceDiv, Nat.reduceMod, reduceCtorEq, sl1, wFacts, zA, qA, qC, nb_tf, nb_ft, nb_tt, nb_ff]
    exact ret1E rfl rfl (settled_I _) rfl
end
end Go.Ab.N

namespace Go.Ab.N
open Go Go.RowKit Go.Proofs
noncomputable section
set_option maxRecDepth 10000
set_option maxHeartbeats 2000000
set_option linter.unusedSimpArgs false
set_option linter.unusedVariables false
open Classical

/-! ### Equal lists -/
theorem eqInts_fn (a b : List Int) (la : a.length < 4611686018427387904) (lb : b.length < 4611686018427387904) : Fn Try.prog 48 [ints a, ints b] (.bool (decide (a = b))) := by
  obtain ⟨V, hV⟩ : ∃ V, V = decide (a = b) := ⟨_, rfl⟩
  rw [← hV]
  refine Fn.intro (fn := Try.f48) Try.call48 Try.func48 rfl mixed 6 [11, 12, 13] [] [] (by kernel_rfl) (Nat.le_of_ble_eq_true rfl) (by simp [settled_ints]) (vc_soundN 1000 ?_)
  by_cases hl : a.length = b.length
  · have f1 : ((a.length : Int) = b.length) = True := eq_true (by omega)
    have f1' : (a.length = b.length) = True := eq_true hl
    simp only [AS.start, f1, f1', ↓wPre, wPost, wFast, wCore, beq_self_eq_true, ite_true, ite_false, false_implies, true_implies, implies_true, eq_self, ne_eq, ↓reduceIte, reduceIte, Nat.reducePow, Nat.reduceLT, Nat.reduceLeDiff, Nat.reduceEqDiff, Nat.reduceAdd, Nat.reduceMul, Nat.reduceSub, Nat.reduceBEq, Nat.reduceDiv, Nat.reduceMod, reduceCtorEq, sl1, wFacts, zA, qA, qC, nb_tf, nb_ft, nb_tt, nb_ff]
    refine run_loop (fun j : Nat => ⟨6, [11, 12, 13], [ints a, ints b, .any, .any, .any, .any], [(11, ints a), (12, I a.length), (13, I j)], []⟩) (fun j => j ≤ a.length ∧ ∀ i, i < j → a.getD i 0 = b.getD i 0) (fun j => a.length - j) 0 ⟨by omega, by omega⟩
      (sub_mk rfl (by simp [subL, ints, sl1, I, hl]) (by simp [subT, look, ints, sl1, I, hl]) rfl) ?_
    rintro j ⟨hj, hno⟩ next
    have w1 := wj j (by omega)
    by_cases hj2 : j < a.length
    · have f2 : ((j : Int) < a.length) = True := eq_true (by omega)
      have f3 : (j < a.length) = True := eq_true hj2
      have f4 : (j < b.length) = True := eq_true (by omega)
      refine vc_soundN 1000 ?_
      simp only [w1, f2, f3, f4, ↓wPre, wPost, wFast, wCore, beq_self_eq_true, ite_true, ite_false, false_implies, true_implies, implies_true, eq_self, ne_eq, ↓reduceIte, reduceIte, Nat.reducePow, Nat.reduceLT, Nat.reduceLeDiff, Nat.reduceEqDiff, Nat.reduceAdd, Nat.reduceMul, Nat.reduceSub, Nat.reduceBEq, Nat.reduceDiv, Nat.reduceMod, reduceCtorEq, sl1, wFacts, zA, qA, qC, nb_tf, nb_ft, nb_tt, nb_ff]
      refine ⟨fun h => ret1E (v := .bool false) rfl rfl (settled_bool _) ?_, fun h => next (j + 1) _ ⟨by omega, fun i hi => ?_⟩ (by omega) (sub_mk rfl (by simp [subL, ints, sl1, I]) (by simp [subT, look, ints, sl1, I]) rfl)⟩
      · rw [hV, decide_eq_false fun e => h (by rw [e])]
      · by_cases e : i = j
        · rw [e]; exact h
        · exact hno i (by omega)
    · have f2 : ((j : Int) < a.length) = False := eq_false (by omega)
      have f3 : (j < a.length) = False := eq_false hj2
      refine vc_soundN 1000 ?_
      simp only [w1, f2, f3, ↓wPre, wPost, wFast, wCore, beq_self_eq_true, ite_true, ite_false, false_implies, true_implies, implies_true, eq_self, ne_eq, ↓reduceIte, reduceIte, Nat.reducePow, Nat.reduceLT, Nat.reduceLeDiff, Nat.reduceEqDiff, Nat.reduceAdd, Nat.reduceMul, Nat.reduceSub, Nat.reduceBEq, Nat.reduceDiv, Nat.reduceMod, reduceCtorEq, sl1, wFacts, zA, qA, qC, nb_tf, nb_ft, nb_tt, nb_ff]
      refine ret1E (v := .bool true) rfl rfl (settled_bool _) ?_
      rw [hV, decide_eq_true]
      refine List.ext_getElem hl fun i h1 h2 => ?_
      have := hno i (by omega)
      rw [List.getD_eq_getElem?_getD, List.getElem?_eq_getElem h1, List.getD_eq_getElem?_getD, List.getElem?_eq_getElem h2] at this
      exact this
  · have f1 : ((a.length : Int) = b.length) = False := eq_false (by omega)
    have f1' : (a.length = b.length) = False := eq_false hl
    simp only [AS.start, f1, f1', ↓wPre, wPost, wFast, wCore, beq_self_eq_true, ite_true, ite_false, false_implies, true_implies, implies_true, eq_self, ne_eq, ↓reduceIte, reduceIte, Nat.reducePow, Nat.reduceLT, Nat.reduceLeDiff, Nat.reduceEqDiff, Nat.reduceAdd, Nat.reduceMul, Nat.reduceSub, Nat.reduceBEq, Nat.reduceDiv, Nat.reduceMod, reduceCtorEq, sl1, wFacts, zA, qA, qC, nb_tf, nb_ft, nb_tt, nb_ff]
    refine ret1E (v := .bool false) rfl rfl (settled_bool _) ?_
    rw [hV, decide_eq_false fun e => hl (by rw [e])]

/-! ### Raw rationals -/
structure RQ where
  pn : Bool
  pd : List Int
  qn : Bool
  qd : List Int
def RQ.L (x : RQ) : List AV := [.bool x.pn, ints x.pd, .bool x.qn, ints x.qd]
def RQ.A (x : RQ) : AV := .agg x.L
theorem settled_RQ (x : RQ) : Settled x.A := settled_agg (by simp [RQ.L, settled_ints, settled_bool])
def RQ.of (r : Rat) : RQ := ⟨decide (r.num < 0), digs r.num.natAbs, false, digs (Ab.N.qd r)⟩
theorem RQ.A_of (r : Rat) : (RQ.of r).A = qA r := rfl
def RQ.sz (x : RQ) : Nat := max x.pd.length x.qd.length
theorem RQ.of_sz (r : Rat) : (RQ.of r).sz ≤ qb r := by
  unfold RQ.sz RQ.of qb
  simp only
  have h1 : bl r.num = (digs r.num.natAbs).length := rfl
  have h2 : (digs (Ab.N.qd r)).length ≤ bl r.den := by
    unfold Ab.N.qd
    by_cases h : r.den = 1
    · rw [if_pos h, digs_zero]; simp
    · rw [if_neg h, bl_nat]; exact Nat.le_refl _
  omega
theorem digs_inj {m n : Nat} (h : digs m = digs n) : m = n := by
  have h1 := digs_val m
  rw [h, digs_val] at h1
  omega
theorem RQ.of_inj {a b : Rat} (h : RQ.of a = RQ.of b) : a = b := by
  unfold RQ.of at h
  injection h with h1 h2 h3 h4
  have h2 := digs_inj h2
  have h4 := digs_inj h4
  refine Rat.ext ?_ ?_
  · have : (a.num < 0) ↔ (b.num < 0) := decide_eq_decide.1 h1
    omega
  · unfold Ab.N.qd at h4
    have := a.den_nz; have := b.den_nz
    split at h4 <;> split at h4 <;> omega
theorem same1_fn (n1 n2 : Bool) (d1 d2 : List Int) (l1 : d1.length < 4611686018427387904) (l2 : d2.length < 4611686018427387904) : Fn Try.prog 73 [zR n1 d1, zR n2 d2] (.bool (decide (n1 = n2) && decide (d1 = d2))) := by
  have c := eqInts_fn d1 d2 l1 l2
  obtain ⟨V, hV⟩ : ∃ V, V = (decide (n1 = n2) && decide (d1 = d2)) := ⟨_, rfl⟩
  rw [← hV]
  refine Fn.intro (fn := Try.f73) Try.call73 Try.func73 rfl mixed 5 [] [] [] (by kernel_rfl) (Nat.le_of_ble_eq_true rfl) (by simp [settled_zR]) (vc_soundN 1000 ?_)
  simp only [AS.start, zR, ↓wPre, wPost, wFast, wCore, beq_self_eq_true, ite_true, ite_false, false_implies, true_implies, implies_true, eq_self, ne_eq, ↓reduceIte, reduceIte, Nat.reducePow, Nat.reduceLT, Nat.reduceLeDiff, Nat.reduceEqDiff, Nat.reduceAdd, Nat.reduceMul, Nat.reduceSub, Nat.reduceBEq, Nat.reduceDiv, Nat.reduceMod, reduceCtorEq, sl1, wFacts, zA, qA, qC, nb_tf, nb_ft, nb_tt, nb_ff]
  refine guardP_intro (fun h => ?_) (fun h => ret1E (v := .bool false) rfl rfl (settled_bool _) ?_)
  · refine call_fn c rfl ?_
    simp only [↓wPre, wPost, wFast, wCore, beq_self_eq_true, ite_true, ite_false, false_implies, true_implies, implies_true, eq_self, ne_eq, ↓reduceIte, reduceIte, Nat.reducePow, Nat.reduceLT, Nat.reduceLeDiff, Nat.reduceEqDiff, Nat.reduceAdd, Nat.reduceMul, Nat.reduceSub, Nat.reduceBEq, Nat.reduceDiv, Nat.reduceMod, reduceCtorEq, sl1, wFacts, zA, qA, qC, nb_tf, nb_ft, nb_tt, nb_ff]
    refine ret1E (v := .bool (decide (d1 = d2))) rfl rfl (settled_bool _) ?_
    rw [hV, decide_eq_true (show n1 = n2 by simpa using h), Bool.true_and]
  · rw [hV, decide_eq_false (show ¬ n1 = n2 by simpa using h), Bool.false_and]
theorem RQ.eq_iff (x y : RQ) : x = y ↔ (x.pn = y.pn ∧ x.pd = y.pd) ∧ x.qn = y.qn ∧ x.qd = y.qd := by
  cases x; cases y; simp [and_assoc]
theorem rsame_fn (x y : RQ) (hx : x.sz < 4611686018427387904) (hy : y.sz < 4611686018427387904) : Fn Try.prog 45 [x.A, y.A] (.bool (decide (x = y))) := by
  have c1 := same1_fn x.pn y.pn x.pd y.pd (by unfold RQ.sz at hx; omega) (by unfold RQ.sz at hy; omega)
  have c2 := same1_fn x.qn y.qn x.qd y.qd (by unfold RQ.sz at hx; omega) (by unfold RQ.sz at hy; omega)
  obtain ⟨V, hV⟩ : ∃ V, V = decide (x = y) := ⟨_, rfl⟩
  rw [← hV]
  have e := RQ.eq_iff x y
  obtain ⟨B1, hB1⟩ : ∃ B, B = (decide (x.pn = y.pn) && decide (x.pd = y.pd)) := ⟨_, rfl⟩
  obtain ⟨B2, hB2⟩ : ∃ B, B = (decide (x.qn = y.qn) && decide (x.qd = y.qd)) := ⟨_, rfl⟩
  rw [← hB1] at c1
  rw [← hB2] at c2
  have hVB : V = (B1 && B2) := by
    rw [hV, hB1, hB2]
    simp only [e, Bool.decide_and]
  refine Fn.intro (fn := Try.f45) Try.call45 Try.func45 rfl mixed 6 [] [] [] (by kernel_rfl) (Nat.le_of_ble_eq_true rfl) (by simp [settled_RQ]) (vc_soundN 1000 ?_)
  simp only [AS.start, RQ.A, RQ.L, ↓wPre, wPost, wFast, wCore, beq_self_eq_true, ite_true, ite_false, false_implies, true_implies, implies_true, eq_self, ne_eq, ↓reduceIte, reduceIte, Nat.reducePow, Nat.reduceLT, Nat.reduceLeDiff, Nat.reduceEqDiff, Nat.reduceAdd, Nat.reduceMul, Nat.reduceSub, Nat.reduceBEq, Nat.reduceDiv, Nat.reduceMod, reduceCtorEq, sl1, wFacts, zA, qA, qC, nb_tf, nb_ft, nb_tt, nb_ff]
  refine call_fn c1 rfl ?_
  cases B1
  · simp only [↓wPre, wPost, wFast, wCore, beq_self_eq_true, ite_true, ite_false, false_implies, true_implies, implies_true, eq_self, ne_eq, ↓reduceIte, reduceIte, Nat.reducePow, Nat.reduceLT, Nat.reduceLeDiff, Nat.reduceEqDiff, Nat.reduceAdd, Nat.reduceMul, Nat.reduceSub, Nat.reduceBEq, Nat.reduceDiv, Nat.reduceMod, reduceCtorEq, sl1, wFacts, zA, qA, qC, nb_tf, nb_ft, nb_tt, nb_ff]
    exact ret1E (v := .bool false) rfl rfl (settled_bool _) (by rw [hVB]; rfl)
  · simp only [↓wPre, wPost, wFast, wCore, beq_self_eq_true, ite_true, ite_false, false_implies, true_implies, implies_true, eq_self, ne_eq, ↓reduceIte, reduceIte, Nat.reducePow, Nat.reduceLT, Nat.reduceLeDiff, Nat.reduceEqDiff, Nat.reduceAdd, Nat.reduceMul, Nat.reduceSub, Nat.reduceBEq, Nat.reduceDiv, Nat.reduceMod, reduceCtorEq, sl1, wFacts, zA, qA, qC, nb_tf, nb_ft, nb_tt, nb_ff]
    refine call_fn c2 rfl ?_
    simp only [↓wPre, wPost, wFast, wCore, beq_self_eq_true, ite_true, ite_false, false_implies, true_implies, implies_true, eq_self, ne_eq, ↓reduceIte, reduceIte, Nat.reducePow, Nat.reduceLT, Nat.reduceLeDiff, Nat.reduceEqDiff, Nat.reduceAdd, Nat.reduceMul, Nat.reduceSub, Nat.reduceBEq, Nat.reduceDiv, Nat.reduceMod, reduceCtorEq, sl1, wFacts, zA, qA, qC, nb_tf, nb_ft, nb_tt, nb_ff]
    exact ret1E (v := .bool B2) rfl rfl (settled_bool _) (by rw [hVB]; rfl)
theorem rsameQ_fn (a b : Rat) (ha : qb a ≤ rm) (hb : qb b ≤ rm) : Fn Try.prog 45 [qA a, qA b] (.bool (decide (a = b))) := by
  unfold rm at ha hb
  have h1 := RQ.of_sz a
  have h2 := RQ.of_sz b
  have := rsame_fn (RQ.of a) (RQ.of b) (by omega) (by omega)
  rw [show decide (RQ.of a = RQ.of b) = decide (a = b) from decide_eq_decide.2 ⟨RQ.of_inj, fun h => by rw [h]⟩] at this
  exact this
/-! ### Which raw numbers are valid -/
def RQ.ok (x : RQ) : Prop := ∃ r : Rat, x = RQ.of r
theorem RQ.ok_iff (x : RQ) (p q : Int) (hp : x.pn = decide (p < 0)) (hpd : x.pd = digs p.natAbs) (hq : x.qn = decide (q < 0)) (hqd : x.qd = digs q.natAbs) : x.ok ↔ ¬ q < 0 ∧ ¬ q = 1 ∧ (q = 0 ∨ Int.gcd p q = 1) := by
  constructor
  · rintro ⟨r, rfl⟩
    unfold RQ.of at hp hpd hq hqd
    simp only at hp hpd hq hqd
    have h1 : r.num.natAbs = p.natAbs := digs_inj hpd
    have h2 := digs_inj hqd
    have h3 : r.num < 0 ↔ p < 0 := decide_eq_decide.1 hp
    have hpr : p = r.num := by omega
    have hq0 : ¬ q < 0 := by simpa using hq.symm
    have hd := r.den_nz
    unfold Ab.N.qd at h2
    by_cases h : r.den = 1
    · rw [if_pos h] at h2
      exact ⟨hq0, by omega, .inl (by omega)⟩
    · rw [if_neg h] at h2
      refine ⟨hq0, by omega, .inr ?_⟩
      have : q = (r.den : Int) := by omega
      rw [hpr, this]
      exact r.reduced
  · rintro ⟨h1, h2, h3⟩
    by_cases h0 : q = 0
    · refine ⟨(p : Rat), ?_⟩
      cases x
      unfold RQ.of Ab.N.qd
      simp only at hp hpd hq hqd
      rw [hp, hpd, hq, hqd, h0]
      simp
      exact decide_eq_decide.2 Iff.rfl
    · have hg := h3.resolve_left h0
      have hn : Nat.Coprime p.natAbs q.natAbs := hg
      refine ⟨⟨p, q.natAbs, by omega, hn⟩, ?_⟩
      cases x
      unfold RQ.of Ab.N.qd
      simp only at hp hpd hq hqd ⊢
      rw [if_neg (by omega), hp, hpd, hq, hqd, decide_eq_false h1]
theorem rvalid_fn (x : RQ) (hx : x.sz < 1000000000) : Fn Try.prog 15 [x.A] (.bool (decide x.ok)) := by
  unfold RQ.sz at hx
  obtain ⟨V, hV⟩ : ∃ V, V = decide x.ok := ⟨_, rfl⟩
  have c1 := ivalid_fn x.pn x.pd (by omega)
  have c2 := ivalid_fn x.qn x.qd (by omega)
  have c3 := unit_fn x.qn x.qd
  have bad1 : validZ x.pn x.pd = false → V = false := fun h => by
    rw [hV]
    refine decide_eq_false ?_
    rintro ⟨r, rfl⟩
    have : validZ (RQ.of r).pn (RQ.of r).pd = true := (validZ_iff _ _).2 ⟨r.num, rfl, rfl⟩
    rw [this] at h; cases h
  have bad2 : validZ x.qn x.qd = false → V = false := fun h => by
    rw [hV]
    refine decide_eq_false ?_
    rintro ⟨r, rfl⟩
    have : validZ (RQ.of r).qn (RQ.of r).qd = true := (validZ_iff _ _).2 ⟨(Ab.N.qd r : Int), by unfold RQ.of; simp, by unfold RQ.of; simp⟩
    rw [this] at h; cases h
  have fin : ∀ {s : AS} {v : Bool}, s.get 2 = .bool v → v = V → RetOk (envP Try.prog Try.f15 [] [] (.bool V)) s := fun h e => ret1E rfl h (settled_bool _) (by rw [e])
  rw [← hV]
  refine Fn.intro (fn := Try.f15) Try.call15 Try.func15 rfl mixed 3 [] [] [] (by kernel_rfl) (Nat.le_of_ble_eq_true rfl) (by simp [settled_RQ]) (vc_soundN 1000 ?_)
  simp only [AS.start, RQ.A, RQ.L, ↓wPre, wPost, wFast, wCore, beq_self_eq_true, ite_true, ite_false, false_implies, true_implies, implies_true, eq_self, ne_eq, ↓reduceIte, reduceIte, Nat.reducePow, Nat.reduceLT, Nat.reduceLeDiff, Nat.reduceEqDiff, Nat.reduceAdd, Nat.reduceMul, Nat.reduceSub, Nat.reduceBEq, Nat.reduceDiv, Nat.reduceMod, reduceCtorEq, sl1, wFacts, zA, qA, qC, nb_tf, nb_ft, nb_tt, nb_ff]
  refine call_fn c1 rfl ?_
  by_cases v1 : validZ x.pn x.pd = true
  rotate_left
  · rw [Bool.not_eq_true] at v1
    rw [v1]
    simp only [↓wPre, wPost, wFast, wCore, beq_self_eq_true, ite_true, ite_false, false_implies, true_implies, implies_true, eq_self, ne_eq, ↓reduceIte, reduceIte, Nat.reducePow, Nat.reduceLT, Nat.reduceLeDiff, Nat.reduceEqDiff, Nat.reduceAdd, Nat.reduceMul, Nat.reduceSub, Nat.reduceBEq, Nat.reduceDiv, Nat.reduceMod, reduceCtorEq, sl1, wFacts, zA, qA, qC, nb_tf, nb_ft, nb_tt, nb_ff]
    exact fin rfl (bad1 v1).symm
  rw [v1]
  simp only [↓wPre, wPost, wFast, wCore, beq_self_eq_true, ite_true, ite_false, false_implies, true_implies, implies_true, eq_self, ne_eq, ↓reduceIte, reduceIte, Nat.reducePow, Nat.reduceLT, Nat.reduceLeDiff, Nat.reduceEqDiff, Nat.reduceAdd, Nat.reduceMul, Nat.reduceSub, Nat.reduceBEq, Nat.reduceDiv, Nat.reduceMod, reduceCtorEq, sl1, wFacts, zA, qA, qC, nb_tf, nb_ft, nb_tt, nb_ff]
  refine call_fn c2 rfl ?_
  by_cases v2 : validZ x.qn x.qd = true
  rotate_left
  · rw [Bool.not_eq_true] at v2
    rw [v2]
    simp only [↓wPre, wPost, wFast, wCore, beq_self_eq_true, ite_true, ite_false, false_implies, true_implies, implies_true, eq_self, ne_eq, ↓reduceIte, reduceIte, Nat.reducePow, Nat.reduceLT, Nat.reduceLeDiff, Nat.reduceEqDiff, Nat.reduceAdd, Nat.reduceMul, Nat.reduceSub, Nat.reduceBEq, Nat.reduceDiv, Nat.reduceMod, reduceCtorEq, sl1, wFacts, zA, qA, qC, nb_tf, nb_ft, nb_tt, nb_ff]
    exact fin rfl (bad2 v2).symm
  rw [v2]
  obtain ⟨p, p1, p2⟩ := (validZ_iff _ _).1 v1
  obtain ⟨q, q1, q2⟩ := (validZ_iff _ _).1 v2
  have hok := RQ.ok_iff x p q p1 p2 q1 q2
  have lp : bl p < 1000000000 := by unfold bl; rw [← p2]; omega
  have lq : bl q < 1000000000 := by unfold bl; rw [← q2]; omega
  rw [q1, q2, unit_z] at c3
  have cg := gcd_fn p q lp lq
  have cu := unitz_fn (Int.gcd p q)
  rw [p1, p2, q1, q2]
  have hl : ((digs q.natAbs).length = 0) = (q = 0) := propext (digs_len_zero.trans (by omega))
  have hlN : (digs q.natAbs).length = 0 ↔ q = 0 := digs_len_zero.trans (by omega)
  have hlI : (((digs q.natAbs).length : Int) = 0) = (q = 0) := propext (by omega)
  by_cases h1 : q < 0
  · have f1 : (q < 0) = True := eq_true h1
    simp only [f1, ↓wPre, wPost, wFast, wCore, beq_self_eq_true, ite_true, ite_false, false_implies, true_implies, implies_true, eq_self, ne_eq, ↓reduceIte, reduceIte, Nat.reducePow, Nat.reduceLT, Nat.reduceLeDiff, Nat.reduceEqDiff, Nat.reduceAdd, Nat.reduceMul, Nat.reduceSub, Nat.reduceBEq, Nat.reduceDiv, Nat.reduceMod, reduceCtorEq, sl1, wFacts, zA, qA, qC, nb_tf, nb_ft, nb_tt, nb_ff]
    exact fin rfl (by rw [hV, decide_eq_false (by rw [hok]; exact fun h => h.1 h1)])
  have f1 : (q < 0) = False := eq_false h1
  simp only [f1, ↓wPre, wPost, wFast, wCore, beq_self_eq_true, ite_true, ite_false, false_implies, true_implies, implies_true, eq_self, ne_eq, ↓reduceIte, reduceIte, Nat.reducePow, Nat.reduceLT, Nat.reduceLeDiff, Nat.reduceEqDiff, Nat.reduceAdd, Nat.reduceMul, Nat.reduceSub, Nat.reduceBEq, Nat.reduceDiv, Nat.reduceMod, reduceCtorEq, sl1, wFacts, zA, qA, qC, nb_tf, nb_ft, nb_tt, nb_ff]
  have c3' := c3
  rw [decide_eq_false h1] at c3'
  refine call_fn c3' rfl ?_
  by_cases h2 : q = 1
  · have f2 : (q = 1) = True := eq_true h2
    simp only [f1, f2, ↓wPre, wPost, wFast, wCore, beq_self_eq_true, ite_true, ite_false, false_implies, true_implies, implies_true, eq_self, ne_eq, ↓reduceIte, reduceIte, Nat.reducePow, Nat.reduceLT, Nat.reduceLeDiff, Nat.reduceEqDiff, Nat.reduceAdd, Nat.reduceMul, Nat.reduceSub, Nat.reduceBEq, Nat.reduceDiv, Nat.reduceMod, reduceCtorEq, sl1, wFacts, zA, qA, qC, nb_tf, nb_ft, nb_tt, nb_ff]
    exact fin rfl (by rw [hV, decide_eq_false (by rw [hok]; exact fun h => h.2.1 h2)])
  have f2 : (q = 1) = False := eq_false h2
  by_cases h0 : q = 0
  · have f3 : (q = 0) = True := eq_true h0
    simp only [f1, f2, f3, hl, hlI, ↓wPre, wPost, wFast, wCore, beq_self_eq_true, ite_true, ite_false, false_implies, true_implies, implies_true, eq_self, ne_eq, ↓reduceIte, reduceIte, Nat.reducePow, Nat.reduceLT, Nat.reduceLeDiff, Nat.reduceEqDiff, Nat.reduceAdd, Nat.reduceMul, Nat.reduceSub, Nat.reduceBEq, Nat.reduceDiv, Nat.reduceMod, reduceCtorEq, sl1, wFacts, zA, qA, qC, nb_tf, nb_ft, nb_tt, nb_ff]
    exact fin rfl (by rw [hV, decide_eq_true (hok.2 ⟨h1, h2, .inl h0⟩)])
  have f3 : (q = 0) = False := eq_false h0
  simp only [f1, f2, f3, hl, hlI, ↓wPre, wPost, wFast, wCore, beq_self_eq_true, ite_true, ite_false, false_implies, true_implies, implies_true, eq_self, ne_eq, ↓reduceIte, reduceIte, Nat.reducePow, Nat.reduceLT, Nat.reduceLeDiff, Nat.reduceEqDiff, Nat.reduceAdd, Nat.reduceMul, Nat.reduceSub, Nat.reduceBEq, Nat.reduceDiv, Nat.reduceMod, reduceCtorEq, sl1, wFacts, zA, qA, qC, nb_tf, nb_ft, nb_tt, nb_ff]
  rw [zA_ge h1] at cg
  refine call_fn cg rfl ?_
  simp only [↓wPre, wPost, wFast, wCore, beq_self_eq_true, ite_true, ite_false, false_implies, true_implies, implies_true, eq_self, ne_eq, ↓reduceIte, reduceIte, Nat.reducePow, Nat.reduceLT, Nat.reduceLeDiff, Nat.reduceEqDiff, Nat.reduceAdd, Nat.reduceMul, Nat.reduceSub, Nat.reduceBEq, Nat.reduceDiv, Nat.reduceMod, reduceCtorEq, sl1, wFacts, zA, qA, qC, nb_tf, nb_ft, nb_tt, nb_ff]
  refine call_fn cu rfl ?_
  simp only [↓wPre, wPost, wFast, wCore, beq_self_eq_true, ite_true, ite_false, false_implies, true_implies, implies_true, eq_self, ne_eq, ↓reduceIte, reduceIte, Nat.reducePow, Nat.reduceLT, Nat.reduceLeDiff, Nat.reduceEqDiff, Nat.reduceAdd, Nat.reduceMul, Nat.reduceSub, Nat.reduceBEq, Nat.reduceDiv, Nat.reduceMod, reduceCtorEq, sl1, wFacts, zA, qA, qC, nb_tf, nb_ft, nb_tt, nb_ff]
  refine fin rfl ?_
  rw [hV, decide_eq_decide, hok]
  constructor
  · intro h; exact ⟨h1, h2, .inr (by omega)⟩
  · rintro ⟨_, _, h | h⟩
    · exact absurd h h0
    · rw [h]; rfl
end
end Go.Ab.N

namespace Go.Ab.N
open Go Go.RowKit Go.Proofs
noncomputable section
set_option maxRecDepth 10000
set_option maxHeartbeats 2000000
set_option linter.unusedSimpArgs false
set_option linter.unusedVariables false
open Classical

/-! ### The reference's integers -/
theorem normal_fn (neg : Bool) (d : List Int) (hl : d.length < 4611686018427387904) : Fn Try.prog 44 [.bool neg, ints d] (ofA neg d) := by
  refine Fn.intro (fn := Try.f44) Try.call44 Try.func44 rfl mixed 6 [] [] [] (by kernel_rfl) (Nat.le_of_ble_eq_true rfl) (by simp [settled_ints, settled_I, settled_fn0, settled_intss, settled_bool, settled_nil, settled_zA, settled_qA, settled_zR, settled_ofA, settled_int]) (vc_soundN 1000 ?_); simp (config := { maxSteps := 2000000 }) only [AS.start, ↓wPre, wPost, wFast, wCore, beq_self_eq_true, ite_true, ite_false, false_implies, true_implies, implies_true, eq_self, ne_eq, ↓reduceIte, reduceIte, Nat.reducePow, Nat.reduceLT, Nat.reduceLeDiff, Nat.reduceEqDiff, Nat.reduceAdd, Nat.reduceMul, Nat.reduceSub, Nat.reduceBEq, Nat.reduceDiv, Nat.reduceMod, reduceCtorEq, sl1, wFacts, zA, qA, qC, nb_tf, nb_ft, nb_tt, nb_ff]
  refine run_loop (fun n : Nat => ⟨6, [], [.bool neg, ints d, .any, .any, .ref 0 0 0, I n], [], [.row 0 2 (ofL [.bool false, .sl 0 0 (fun _ => .any) true])]⟩) (fun n => n ≤ d.length ∧ trim d d.length = trim d n) (fun n => n) d.length ⟨by omega, rfl⟩
    (sub_mk rfl (by simp [zA, qA, qC, nb_tf, nb_ft, nb_tt, nb_ff, subL, ints, intss, bools, sl1, I]) (by simp [subT]) rfl) ?_
  rintro n ⟨hn, ht⟩ next
  cases n with
  | zero =>
    refine vc_soundN 1000 ?_
    simp only [Int.lt_irrefl, ↓wPre, wPost, wFast, wCore, beq_self_eq_true, ite_true, ite_false, false_implies, true_implies, implies_true, eq_self, ne_eq, ↓reduceIte, reduceIte, Nat.reducePow, Nat.reduceLT, Nat.reduceLeDiff, Nat.reduceEqDiff, Nat.reduceAdd, Nat.reduceMul, Nat.reduceSub, Nat.reduceBEq, Nat.reduceDiv, Nat.reduceMod, reduceCtorEq, sl1, wFacts, zA, qA, qC, nb_tf, nb_ft, nb_tt, nb_ff]
    refine retCellP (v := .agg [.bool false, .sl 0 0 (fun _ => .any) false]) rfl (by simp [AS.get, aload, ldk42, rd, cellsFrom, ofL, oif_true]) ?_
    have e : ofA neg d = .agg [.bool false, ints []] := by unfold ofA; rw [ht]; simp [trim]
    rw [e]
    exact sees_agg ⟨sees_of (settled_bool _) rfl, sees_of_weak (settled_ints _) (weak_emp _ _), trivial⟩
  | succ n =>
    have e0 : (0 < ((n + 1 : Nat) : Int)) = True := eq_true (by omega)
    have e1 : (((n + 1 : Nat) : Int) = 0) = False := eq_false (by omega)
    have w1 : IntKind.i64.wrap (((n + 1 : Nat) : Int) - 1) = (n : Int) := by rw [IntKind.wrap_i64]; omega
    have w2 : ((n : Int) < 0) = False := eq_false (by omega)
    have e2 : (n < d.length) = True := eq_true (by omega)
    refine vc_soundN 1000 ?_
    simp only [e0, e1, e2, w1, w2, ↓wPre, wPost, wFast, wCore, beq_self_eq_true, ite_true, ite_false, false_implies, true_implies, implies_true, eq_self, ne_eq, ↓reduceIte, reduceIte, Nat.reducePow, Nat.reduceLT, Nat.reduceLeDiff, Nat.reduceEqDiff, Nat.reduceAdd, Nat.reduceMul, Nat.reduceSub, Nat.reduceBEq, Nat.reduceDiv, Nat.reduceMod, reduceCtorEq, sl1, wFacts, zA, qA, qC, nb_tf, nb_ft, nb_tt, nb_ff]
    refine ⟨fun h0 => next n _ ⟨by omega, by rw [ht]; simp only [trim]; rw [if_pos h0]⟩ (by omega) (sub_mk rfl (by simp [zA, qA, qC, nb_tf, nb_ft, nb_tt, nb_ff, subL, ints, intss, bools, sl1, I]) (by simp [subT]) rfl), fun h0 => ⟨by omega, ?_⟩⟩
    have ht2 : trim d d.length = n + 1 := by rw [ht]; simp only [trim]; rw [if_neg h0]
    have e : ofA neg d = .agg [.bool neg, ints (d.take (n + 1))] := by unfold ofA; rw [ht2]; simp
    have hlen : (d.take (n + 1)).length = n + 1 := by rw [List.length_take]; omega
    rw [e]
    refine retRefE rfl ldk42 rfl rfl rfl rfl (settled_agg (by simp [settled_ints, settled_bool])) ⟨Weak.rfl' _, weak_cut _ ?_ ?_ fun j hj => ?_, trivial⟩
    · rw [hlen]; omega
    · rw [hlen]; omega
    · rw [hlen] at hj
      rw [getD_take d 0 j (n + 1) hj]; rfl
theorem normal_z (neg : Bool) (L : List Int) (h : dig L) (hl : L.length < 4611686018427387904) : Fn Try.prog 44 [.bool neg, ints L] (zA (sgn neg (val L))) := by
  rw [of_zA h]; exact normal_fn neg L hl
theorem digit_fn (d : List Int) (i : Nat) : Fn Try.prog 84 [ints d, I i] (I (dg d i)) := by
  by_cases h : i < d.length
  · have f1 : ((i : Int) < d.length) = True := eq_true (by omega)
    have f2 : (i < d.length) = True := eq_true h
    refine Fn.intro (fn := Try.f84) Try.call84 Try.func84 rfl mixed 5 [] [] [] (by kernel_rfl) (Nat.le_of_ble_eq_true rfl) (by simp [settled_ints, settled_I, settled_fn0, settled_intss, settled_bool, settled_nil, settled_zA, settled_qA, settled_zR, settled_ofA, settled_int]) (vc_soundN 1000 ?_); simp (config := { maxSteps := 2000000 }) only [AS.start, ↓wPre, wPost, wFast, wCore, beq_self_eq_true, ite_true, ite_false, false_implies, true_implies, implies_true, eq_self, ne_eq, ↓reduceIte, reduceIte, Nat.reducePow, Nat.reduceLT, Nat.reduceLeDiff, Nat.reduceEqDiff, Nat.reduceAdd, Nat.reduceMul, Nat.reduceSub, Nat.reduceBEq, Nat.reduceDiv, Nat.reduceMod, reduceCtorEq, sl1, wFacts, zA, qA, qC, nb_tf, nb_ft, nb_tt, nb_ff]
    simp only [f1, f2, ↓wPre, wPost, wFast, wCore, beq_self_eq_true, ite_true, ite_false, false_implies, true_implies, implies_true, eq_self, ne_eq, ↓reduceIte, reduceIte, Nat.reducePow, Nat.reduceLT, Nat.reduceLeDiff, Nat.reduceEqDiff, Nat.reduceAdd, Nat.reduceMul, Nat.reduceSub, Nat.reduceBEq, Nat.reduceDiv, Nat.reduceMod, reduceCtorEq, sl1, wFacts, zA, qA, qC, nb_tf, nb_ft, nb_tt, nb_ff]
    exact ret1E rfl rfl (settled_I _) rfl
  · have f1 : ((i : Int) < d.length) = False := eq_false (by omega)
    have f2 : (i < d.length) = False := eq_false h
    refine Fn.intro (fn := Try.f84) Try.call84 Try.func84 rfl mixed 5 [] [] [] (by kernel_rfl) (Nat.le_of_ble_eq_true rfl) (by simp [settled_ints, settled_I, settled_fn0, settled_intss, settled_bool, settled_nil, settled_zA, settled_qA, settled_zR, settled_ofA, settled_int]) (vc_soundN 1000 ?_); simp (config := { maxSteps := 2000000 }) only [AS.start, ↓wPre, wPost, wFast, wCore, beq_self_eq_true, ite_true, ite_false, false_implies, true_implies, implies_true, eq_self, ne_eq, ↓reduceIte, reduceIte, Nat.reducePow, Nat.reduceLT, Nat.reduceLeDiff, Nat.reduceEqDiff, Nat.reduceAdd, Nat.reduceMul, Nat.reduceSub, Nat.reduceBEq, Nat.reduceDiv, Nat.reduceMod, reduceCtorEq, sl1, wFacts, zA, qA, qC, nb_tf, nb_ft, nb_tt, nb_ff]
    simp only [f1, f2, ↓wPre, wPost, wFast, wCore, beq_self_eq_true, ite_true, ite_false, false_implies, true_implies, implies_true, eq_self, ne_eq, ↓reduceIte, reduceIte, Nat.reducePow, Nat.reduceLT, Nat.reduceLeDiff, Nat.reduceEqDiff, Nat.reduceAdd, Nat.reduceMul, Nat.reduceSub, Nat.reduceBEq, Nat.reduceDiv, Nat.reduceMod, reduceCtorEq, sl1, wFacts, zA, qA, qC, nb_tf, nb_ft, nb_tt, nb_ff]
    exact ret1E rfl rfl (settled_I _) (by rw [dg_out (by omega)]; rfl)
theorem compared_fn (a b : List Int) (ha : canon a) (hb : canon b) (la : a.length < 4611686018427387904) : Fn Try.prog 85 [ints a, ints b] (I (val a - val b).sign) := by
  obtain ⟨V, hV⟩ : ∃ V, V = (val a - val b).sign := ⟨_, rfl⟩
  rw [← hV]
  have fin : ∀ {s : AS} {v : Int}, s.get 4 = I v → v = V → RetOk (envP Try.prog Try.f85 [] [] (I V)) s := fun h e => ret1E rfl h (settled_I _) (by rw [e])
  rcases Nat.lt_trichotomy a.length b.length with h | h | h
  · have := canon_lt ha hb h
    have f1 : ((a.length : Int) < b.length) = True := eq_true (by omega)
    have f2 : (a.length < b.length) = True := eq_true h
    refine Fn.intro (fn := Try.f85) Try.call85 Try.func85 rfl mixed 6 [] [] [] (by kernel_rfl) (Nat.le_of_ble_eq_true rfl) (by simp [settled_ints, settled_I, settled_fn0, settled_intss, settled_bool, settled_nil, settled_zA, settled_qA, settled_zR, settled_ofA, settled_int]) (vc_soundN 1000 ?_); simp (config := { maxSteps := 2000000 }) only [AS.start, ↓wPre, wPost, wFast, wCore, beq_self_eq_true, ite_true, ite_false, false_implies, true_implies, implies_true, eq_self, ne_eq, ↓reduceIte, reduceIte, Nat.reducePow, Nat.reduceLT, Nat.reduceLeDiff, Nat.reduceEqDiff, Nat.reduceAdd, Nat.reduceMul, Nat.reduceSub, Nat.reduceBEq, Nat.reduceDiv, Nat.reduceMod, reduceCtorEq, sl1, wFacts, zA, qA, qC, nb_tf, nb_ft, nb_tt, nb_ff]
    simp only [f1, f2, ↓wPre, wPost, wFast, wCore, beq_self_eq_true, ite_true, ite_false, false_implies, true_implies, implies_true, eq_self, ne_eq, ↓reduceIte, reduceIte, Nat.reducePow, Nat.reduceLT, Nat.reduceLeDiff, Nat.reduceEqDiff, Nat.reduceAdd, Nat.reduceMul, Nat.reduceSub, Nat.reduceBEq, Nat.reduceDiv, Nat.reduceMod, reduceCtorEq, sl1, wFacts, zA, qA, qC, nb_tf, nb_ft, nb_tt, nb_ff]
    exact fin rfl (by rw [hV, Int.sign_eq_neg_one_of_neg (by omega)])
  rotate_left
  · have := canon_lt hb ha h
    have f1 : ((a.length : Int) < b.length) = False := eq_false (by omega)
    have f2 : (a.length < b.length) = False := eq_false (by omega)
    have f3 : ((b.length : Int) < a.length) = True := eq_true (by omega)
    have f4 : (b.length < a.length) = True := eq_true h
    refine Fn.intro (fn := Try.f85) Try.call85 Try.func85 rfl mixed 6 [] [] [] (by kernel_rfl) (Nat.le_of_ble_eq_true rfl) (by simp [settled_ints, settled_I, settled_fn0, settled_intss, settled_bool, settled_nil, settled_zA, settled_qA, settled_zR, settled_ofA, settled_int]) (vc_soundN 1000 ?_); simp (config := { maxSteps := 2000000 }) only [AS.start, ↓wPre, wPost, wFast, wCore, beq_self_eq_true, ite_true, ite_false, false_implies, true_implies, implies_true, eq_self, ne_eq, ↓reduceIte, reduceIte, Nat.reducePow, Nat.reduceLT, Nat.reduceLeDiff, Nat.reduceEqDiff, Nat.reduceAdd, Nat.reduceMul, Nat.reduceSub, Nat.reduceBEq, Nat.reduceDiv, Nat.reduceMod, reduceCtorEq, sl1, wFacts, zA, qA, qC, nb_tf, nb_ft, nb_tt, nb_ff]
    simp only [f1, f2, f3, f4, ↓wPre, wPost, wFast, wCore, beq_self_eq_true, ite_true, ite_false, false_implies, true_implies, implies_true, eq_self, ne_eq, ↓reduceIte, reduceIte, Nat.reducePow, Nat.reduceLT, Nat.reduceLeDiff, Nat.reduceEqDiff, Nat.reduceAdd, Nat.reduceMul, Nat.reduceSub, Nat.reduceBEq, Nat.reduceDiv, Nat.reduceMod, reduceCtorEq, sl1, wFacts, zA, qA, qC, nb_tf, nb_ft, nb_tt, nb_ff]
    exact fin rfl (by rw [hV, Int.sign_eq_one_of_pos (by omega)])
  have f1 : ((a.length : Int) < b.length) = False := eq_false (by omega)
  have f2 : (a.length < b.length) = False := eq_false (by omega)
  have f3 : ((b.length : Int) < a.length) = False := eq_false (by omega)
  have f4 : (b.length < a.length) = False := eq_false (by omega)
  refine Fn.intro (fn := Try.f85) Try.call85 Try.func85 rfl mixed 6 [] [] [] (by kernel_rfl) (Nat.le_of_ble_eq_true rfl) (by simp [settled_ints, settled_I, settled_fn0, settled_intss, settled_bool, settled_nil, settled_zA, settled_qA, settled_zR, settled_ofA, settled_int]) (vc_soundN 1000 ?_); simp (config := { maxSteps := 2000000 }) only [AS.start, ↓wPre, wPost, wFast, wCore, beq_self_eq_true, ite_true, ite_false, false_implies, true_implies, implies_true, eq_self, ne_eq, ↓reduceIte, reduceIte, Nat.reducePow, Nat.reduceLT, Nat.reduceLeDiff, Nat.reduceEqDiff, Nat.reduceAdd, Nat.reduceMul, Nat.reduceSub, Nat.reduceBEq, Nat.reduceDiv, Nat.reduceMod, reduceCtorEq, sl1, wFacts, zA, qA, qC, nb_tf, nb_ft, nb_tt, nb_ff]
  simp only [f1, f2, f3, f4, ↓wPre, wPost, wFast, wCore, beq_self_eq_true, ite_true, ite_false, false_implies, true_implies, implies_true, eq_self, ne_eq, ↓reduceIte, reduceIte, Nat.reducePow, Nat.reduceLT, Nat.reduceLeDiff, Nat.reduceEqDiff, Nat.reduceAdd, Nat.reduceMul, Nat.reduceSub, Nat.reduceBEq, Nat.reduceDiv, Nat.reduceMod, reduceCtorEq, sl1, wFacts, zA, qA, qC, nb_tf, nb_ft, nb_tt, nb_ff]
  refine run_loop (fun k : Nat => ⟨6, [], [ints a, ints b, .any, .any, I 0, I ((k : Int) - 1)], [], []⟩) (fun k => k ≤ a.length ∧ a.drop k = b.drop k) (fun k => k) a.length ⟨by omega, by rw [List.drop_length, h, List.drop_length]⟩
    ?_ ?_
  · have w0 : IntKind.i64.wrap ((a.length : Int) - 1) = (a.length : Int) - 1 := by rw [IntKind.wrap_i64]; omega
    rw [w0]
    exact (sub_mk rfl (by simp [zA, qA, qC, nb_tf, nb_ft, nb_tt, nb_ff, subL, ints, intss, bools, sl1, I]) (by simp [subT]) rfl)
  rintro k ⟨hk, he⟩ next
  cases k with
  | zero =>
    refine vc_soundN 1000 ?_
    have e1 : ((0 : Int) ≤ 0 - 1) = False := eq_false (by omega)
    simp only [e1, ↓wPre, wPost, wFast, wCore, beq_self_eq_true, ite_true, ite_false, false_implies, true_implies, implies_true, eq_self, ne_eq, ↓reduceIte, reduceIte, Nat.reducePow, Nat.reduceLT, Nat.reduceLeDiff, Nat.reduceEqDiff, Nat.reduceAdd, Nat.reduceMul, Nat.reduceSub, Nat.reduceBEq, Nat.reduceDiv, Nat.reduceMod, reduceCtorEq, sl1, wFacts, zA, qA, qC, nb_tf, nb_ft, nb_tt, nb_ff]
    refine fin rfl ?_
    rw [List.drop_zero, List.drop_zero] at he
    rw [hV, he, Int.sub_self]; rfl
  | succ k =>
    have e1 : ((k + 1 : Nat) : Int) - 1 = (k : Int) := by omega
    have w1 : IntKind.i64.wrap ((k : Int) - 1) = (k : Int) - 1 := by rw [IntKind.wrap_i64]; omega
    have e3 : (k < a.length) = True := eq_true (by omega)
    have e4 : (k < b.length) = True := eq_true (by omega)
    have hcm : a.getD k 0 ≠ b.getD k 0 → (a.getD k 0 - b.getD k 0).sign = V := fun hne => by
      rw [hV, cmp_at ha.1 hb.1 h (by omega) he hne]
    refine vc_soundN 1000 ?_
    simp only [e1, w1, e3, e4, ↓wPre, wPost, wFast, wCore, beq_self_eq_true, ite_true, ite_false, false_implies, true_implies, implies_true, eq_self, ne_eq, ↓reduceIte, reduceIte, Nat.reducePow, Nat.reduceLT, Nat.reduceLeDiff, Nat.reduceEqDiff, Nat.reduceAdd, Nat.reduceMul, Nat.reduceSub, Nat.reduceBEq, Nat.reduceDiv, Nat.reduceMod, reduceCtorEq, sl1, wFacts, zA, qA, qC, nb_tf, nb_ft, nb_tt, nb_ff]
    refine ⟨fun h1 => fin rfl ?_, fun h1 => ⟨fun h2 => fin rfl ?_, fun h2 => next k _ ⟨by omega, drop_eq_succ h (by omega) he (by omega)⟩ (by omega) (sub_mk rfl (by simp [zA, qA, qC, nb_tf, nb_ft, nb_tt, nb_ff, subL, ints, intss, bools, sl1, I]) (by simp [subT]) rfl)⟩⟩
    · rw [← hcm (by omega), Int.sign_eq_neg_one_of_neg (by omega)]
    · rw [← hcm (by omega), Int.sign_eq_one_of_pos (by omega)]
end
end Go.Ab.N

