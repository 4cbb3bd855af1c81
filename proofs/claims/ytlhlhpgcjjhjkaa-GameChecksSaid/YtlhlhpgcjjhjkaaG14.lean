/- Contracts of functions of this chapter, for every argument that fits, and what they need. -/
import Derived.Test.YtlhlhpgcjjhjkaaG2
set_option linter.unusedSimpArgs false
set_option linter.unusedVariables false
namespace Go.Ab.G
open Go Go.RowKit Go.Proofs
noncomputable section
set_option maxRecDepth 10000
set_option maxHeartbeats 2000000
set_option linter.unusedSimpArgs false
set_option linter.unusedVariables false
open Classical

/-! ### A list with something changed -/
def changedF (l : List Int) (how at_ by_ : Int) : List Int := if l.length = 0 then [by_] else if how.tmod 5 = 0 then l.take (l.length - 1) else l.set (aroundF at_ l.length).toNat (aroundF by_ 12 - 2)
theorem changed_fn (l : List Int) (how at_ by_ : Int) (hl : l.length < 1048576) (ha : in64 at_) (hb : in64 by_) : Fn Try.prog 20 [ints l, I how, I at_, I by_] (ints (changedF l how at_ by_)) := by
  have hn := aroundF_bound by_ 12 (by omega)
  have wn : IntKind.i64.wrap (aroundF by_ 12 - 2) = aroundF by_ 12 - 2 := by rw [IntKind.wrap_i64]; omega
  obtain ⟨r, hr⟩ : ∃ r, r = changedF l how at_ by_ := ⟨_, rfl⟩
  rw [← hr]
  unfold changedF at hr
  have e1 : ∀ j, j < l.length → appF 0 (ofL []) l.length (slF I 0 l) j = I (l.getD j 0) := fun j hj => by
    unfold appF
    rw [if_neg (by omega), if_pos (by omega)]; rfl
  refine Fn.intro (fn := Try.f20) Try.call20 Try.func20 rfl mixed 10 [] [] [] (by kernel_rfl) (Nat.le_of_ble_eq_true rfl) (by simp [settled_ints, settled_I, settled_fn0, settled_intss, settled_bool, settled_nil, settled_gmA]) (vc_soundN 1000 ?_); simp (config := { maxSteps := 2000000 }) only [AS.start, ↓wPre, wPost, wFast, Nat.zero_add, Nat.add_zero, Nat.zero_lt_succ, Nat.min_self, Nat.zero_min, Nat.min_zero, Nat.sub_zero, Nat.zero_mul, Int.le_refl, Nat.le_refl, Nat.lt_irrefl, Nat.mul_one, Bool.false_eq_true, Bool.true_eq_false, decide_true, decide_false, decide_eq_true_eq, decide_eq_false_iff_not, Bool.not_true, Bool.not_false, Bool.not_eq_true', Bool.not_eq_false', Bool.and_true, Bool.true_and, Bool.false_and, beq_self_eq_true, ite_true, ite_false, true_and, and_true, false_and, and_false, not_true_eq_false, not_false_eq_true, false_implies, true_implies, implies_true, eq_self, ne_eq, or_true, true_or, or_false, false_or, Bool.or_false, Bool.or_true, Bool.false_or, Bool.true_or, Int.natCast_nonneg, Int.ofNat_lt, Int.ofNat_le, Int.ofNat_inj, Int.ofNat_zero, ↓reduceIte, reduceIte, Nat.reducePow, Nat.reduceLT, Nat.reduceLeDiff, Nat.reduceEqDiff, Nat.reduceAdd, Nat.reduceMul, Nat.reduceSub, Nat.reduceBEq, reduceCtorEq, sl1, wFacts, gmA]
  refine ⟨by omega, fun h0 => ret1 rfl ?_, fun h0 => ⟨by decide, fun h5 => ?_, fun h5 => ?_⟩⟩
  · rw [hr, if_pos (by omega)]
    exact sees_of_weak (settled_ints _) (weak_lit [by_] _)
  · rw [if_neg (by omega), if_pos h5] at hr
    have w1 : IntKind.i64.wrap ((l.length : Int) - 1) = ((l.length - 1 : Nat) : Int) := by rw [IntKind.wrap_i64]; omega
    refine ⟨by omega, ret1 rfl ?_⟩
    rw [hr]
    refine sees_intsF rfl rfl (by rw [w1]; simp) (by simp) (fun j hj => ?_)
    simp at hj
    rw [e1 j (by omega), getD_take l 0 j (l.length - 1) (by omega)]
  · rw [if_neg (by omega), if_neg h5] at hr
    have ba := aroundF_bound at_ l.length (by omega)
    refine call_fn (around_fn at_ l.length ha (by omega)) rfl ?_
    simp only [↓wPre, wPost, wFast, Nat.zero_add, Nat.add_zero, Nat.zero_lt_succ, Nat.min_self, Nat.zero_min, Nat.min_zero, Nat.sub_zero, Nat.zero_mul, Int.le_refl, Nat.le_refl, Nat.lt_irrefl, Nat.mul_one, Bool.false_eq_true, Bool.true_eq_false, decide_true, decide_false, decide_eq_true_eq, decide_eq_false_iff_not, Bool.not_true, Bool.not_false, Bool.not_eq_true', Bool.not_eq_false', Bool.and_true, Bool.true_and, Bool.false_and, beq_self_eq_true, ite_true, ite_false, true_and, and_true, false_and, and_false, not_true_eq_false, not_false_eq_true, false_implies, true_implies, implies_true, eq_self, ne_eq, or_true, true_or, or_false, false_or, Bool.or_false, Bool.or_true, Bool.false_or, Bool.true_or, Int.natCast_nonneg, Int.ofNat_lt, Int.ofNat_le, Int.ofNat_inj, Int.ofNat_zero, ↓reduceIte, reduceIte, Nat.reducePow, Nat.reduceLT, Nat.reduceLeDiff, Nat.reduceEqDiff, Nat.reduceAdd, Nat.reduceMul, Nat.reduceSub, Nat.reduceBEq, reduceCtorEq, sl1, wFacts, gmA]
    refine call_fn (around_fn by_ 12 hb (by omega)) rfl ?_
    simp only [wn, ↓wPre, wPost, wFast, Nat.zero_add, Nat.add_zero, Nat.zero_lt_succ, Nat.min_self, Nat.zero_min, Nat.min_zero, Nat.sub_zero, Nat.zero_mul, Int.le_refl, Nat.le_refl, Nat.lt_irrefl, Nat.mul_one, Bool.false_eq_true, Bool.true_eq_false, decide_true, decide_false, decide_eq_true_eq, decide_eq_false_iff_not, Bool.not_true, Bool.not_false, Bool.not_eq_true', Bool.not_eq_false', Bool.and_true, Bool.true_and, Bool.false_and, beq_self_eq_true, ite_true, ite_false, true_and, and_true, false_and, and_false, not_true_eq_false, not_false_eq_true, false_implies, true_implies, implies_true, eq_self, ne_eq, or_true, true_or, or_false, false_or, Bool.or_false, Bool.or_true, Bool.false_or, Bool.true_or, Int.natCast_nonneg, Int.ofNat_lt, Int.ofNat_le, Int.ofNat_inj, Int.ofNat_zero, ↓reduceIte, reduceIte, Nat.reducePow, Nat.reduceLT, Nat.reduceLeDiff, Nat.reduceEqDiff, Nat.reduceAdd, Nat.reduceMul, Nat.reduceSub, Nat.reduceBEq, reduceCtorEq, sl1, wFacts, gmA]
    refine ⟨by omega, by omega, ret1 rfl ?_⟩
    rw [hr]
    refine sees_intsF rfl rfl (by simp) (by simp) (fun j hj => ?_)
    simp only [List.length_set] at hj
    unfold upd
    by_cases hjk : j = (aroundF at_ l.length).toNat
    · rw [if_pos hjk, hjk]
      simp [List.getD_eq_getElem?_getD, I, show (aroundF at_ l.length).toNat < l.length by omega]
    · rw [if_neg hjk, e1 j hj]
      simp [List.getD_eq_getElem?_getD, List.getElem?_set_ne (Ne.symm hjk)]
end
end Go.Ab.G
