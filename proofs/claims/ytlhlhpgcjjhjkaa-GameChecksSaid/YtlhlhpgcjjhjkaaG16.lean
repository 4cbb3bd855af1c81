/- Contracts of functions of this chapter, for every argument that fits, and what they need. -/
import Derived.Test.YtlhlhpgcjjhjkaaGS
set_option linter.unusedSimpArgs false
set_option linter.unusedVariables false
namespace Go.Ab.G
open Go Go.RowKit Go.Proofs
noncomputable section
set_option maxRecDepth 10000
set_option maxHeartbeats 2000000
set_option linter.unusedSimpArgs false
set_option linter.unusedVariables false
set_option pp.maxSteps 100000
open Classical

def emptS : AV := .sl 0 0 (fun _ => .any) true
theorem join_call {X : Env} {c A : Prop} {k : List Item} {s2 : AS} (s' : AS) (h1 : Run X k s' → c → A) (h2 : ¬ c → Sub X.base s2 s') (key : Run X k s') : (c → A) ∧ (¬ c → RunT X k .mk s2) :=
  ⟨fun hc => h1 key hc, fun hc => key.sub (h2 hc)⟩
def heapS (l : List Int) (k : Nat) : List AO :=
  [.row 0 4 (fun _ => emptS), .row 0 4 (ofL [.osl 2 k 1 0 k, .osl 3 k 1 0 k, .osl 4 (goalS l k).length 1 0 (goalS l k).length, .osl 5 (badS l k).length 1 0 (badS l k).length]),
     .row k k (slF I 0 (tab (ownS l) k)), .row k k (slF ints [] (nextS l (numS l) k)), .row (goalS l k).length (goalS l k).length (slF I 0 (goalS l k)), .row (badS l k).length (badS l k).length (slF I 0 (badS l k))]
theorem ofL4 (a : AV) {j : Nat} (h : j < 4) : ofL [a, a, a, a] j = a := by
  rcases (show j = 0 ∨ j = 1 ∨ j = 2 ∨ j = 3 by omega) with rfl | rfl | rfl | rfl <;> rfl
theorem goalS_zero (l : List Int) : goalS l 0 = [] := rfl
theorem badS_zero (l : List Int) : badS l 0 = [] := rfl
theorem some_fn (l : List Int) (ha : all64 l) : Fn Try.prog 9 [ints l] (gmA (someG l)) := by
  obtain ⟨V, hV⟩ : ∃ V, V = gmA (someG l) := ⟨_, rfl⟩
  rw [← hV]
  refine Fn.intro (fn := Try.f9) Try.call9 Try.func9 rfl mixed 10 [] [] [] (by kernel_rfl) (Nat.le_of_ble_eq_true rfl) (by simp [settled_ints, settled_I, settled_fn0, settled_intss, settled_bool, settled_nil, settled_gmA]) (vc_soundN 1000 ?_); simp (config := { maxSteps := 2000000 }) only [AS.start, ↓wPre, wPost, wFast, Nat.zero_add, Nat.add_zero, Nat.zero_lt_succ, Nat.min_self, Nat.zero_min, Nat.min_zero, Nat.sub_zero, Nat.zero_mul, Int.le_refl, Nat.le_refl, Nat.lt_irrefl, Nat.mul_one, Bool.false_eq_true, Bool.true_eq_false, decide_true, decide_false, decide_eq_true_eq, decide_eq_false_iff_not, Bool.not_true, Bool.not_false, Bool.not_eq_true', Bool.not_eq_false', Bool.and_true, Bool.true_and, Bool.false_and, beq_self_eq_true, ite_true, ite_false, true_and, and_true, false_and, and_false, not_true_eq_false, not_false_eq_true, false_implies, true_implies, implies_true, eq_self, ne_eq, or_true, true_or, or_false, false_or, Bool.or_false, Bool.or_true, Bool.false_or, Bool.true_or, Int.natCast_nonneg, Int.ofNat_lt, Int.ofNat_le, Int.ofNat_inj, Int.ofNat_zero, ↓reduceIte, reduceIte, Nat.reducePow, Nat.reduceLT, Nat.reduceLeDiff, Nat.reduceEqDiff, Nat.reduceAdd, Nat.reduceMul, Nat.reduceSub, Nat.reduceBEq, reduceCtorEq, sl1, wFacts, gmA]
  refine call_fn (at_fn l 0 8 ha (by omega)) rfl ?_
  have hb := numS_bound l
  have wn : IntKind.i64.wrap (1 + atF l 0 8) = (numS l : Int) := by
    have := atF_bound l 0 8 (by omega)
    rw [IntKind.wrap_i64]; unfold numS; omega
  simp only [wn, ↓wPre, wPost, wFast, Nat.zero_add, Nat.add_zero, Nat.zero_lt_succ, Nat.min_self, Nat.zero_min, Nat.min_zero, Nat.sub_zero, Nat.zero_mul, Int.le_refl, Nat.le_refl, Nat.lt_irrefl, Nat.mul_one, Bool.false_eq_true, Bool.true_eq_false, decide_true, decide_false, decide_eq_true_eq, decide_eq_false_iff_not, Bool.not_true, Bool.not_false, Bool.not_eq_true', Bool.not_eq_false', Bool.and_true, Bool.true_and, Bool.false_and, beq_self_eq_true, ite_true, ite_false, true_and, and_true, false_and, and_false, not_true_eq_false, not_false_eq_true, false_implies, true_implies, implies_true, eq_self, ne_eq, or_true, true_or, or_false, false_or, Bool.or_false, Bool.or_true, Bool.false_or, Bool.true_or, Int.natCast_nonneg, Int.ofNat_lt, Int.ofNat_le, Int.ofNat_inj, Int.ofNat_zero, ↓reduceIte, reduceIte, Nat.reducePow, Nat.reduceLT, Nat.reduceLeDiff, Nat.reduceEqDiff, Nat.reduceAdd, Nat.reduceMul, Nat.reduceSub, Nat.reduceBEq, reduceCtorEq, sl1, wFacts, gmA]
  refine run_loop (fun k : Nat => ⟨10, [], [ints l, .any, .ref 0 0 0, I (numS l), .ref 1 0 0, I k, .any, .any, .any, .any], [], heapS l k⟩)
    (fun k => k ≤ numS l) (fun k => numS l - k) 0 (by omega) ?_ ?_
  · let SS : List AO → AS := fun h => ⟨10, [], [ints l, .any, .ref 0 0 0, I (numS l), .ref 1 0 0, I 0, .any, .any, .any, .any], [], h⟩
    refine Sub.trans (b := SS [.row 0 4 (ofL [emptS, emptS, emptS, emptS]), .row 0 4 (ofL [emptS, emptS, emptS, emptS])]) (sub_mk rfl ?_ ?_ ?_) ?_
    · simp [SS, subL, ints, sl1, I]
    · simp [SS, subT]
    · simp [SS, emptS]
    refine (sub_rowf 0 4 (fun _ => emptS) rfl (Nat.le_refl _) (fun j hj => ofL4 _ hj)).trans ?_
    refine (sub_rowf 1 4 (fun _ => emptS) rfl (Nat.le_refl _) (fun j hj => ofL4 _ hj)).trans ?_
    refine (sub_adoptc 1 1 (slF I 0 []) rfl 4 (Nat.le_refl _)).trans ?_
    refine (sub_rowf 1 4 (ofL [.osl 2 0 1 0 0, .osl 3 0 1 0 0, .osl 4 0 1 0 0, .osl 5 0 1 0 0]) rfl (Nat.le_refl _) (fun j hj => ?_)).trans ?_
    · rcases (show j = 0 ∨ j = 1 ∨ j = 2 ∨ j = 3 by omega) with rfl | rfl | rfl | rfl <;> rfl
    refine (sub_rowf 3 0 (slF ints [] []) rfl (Nat.le_refl _) (fun j hj => by omega)).trans (sub_mk rfl ?_ ?_ ?_)
    · simp [SS, subL, ints, sl1, I]
    · simp [SS, subT]
    · simp [SS, heapS, goalS_zero, badS_zero, tab, nextS]
  intro k hk next
  have w1 := wj k (by omega)
  have w3 : IntKind.i64.wrap (3 * (k : Int)) = ((3 * k : Nat) : Int) := by rw [IntKind.wrap_i64]; omega
  have wa : IntKind.i64.wrap (1 + ((3 * k : Nat) : Int)) = ((1 + 3 * k : Nat) : Int) := by rw [IntKind.wrap_i64]; omega
  have wb : IntKind.i64.wrap (2 + ((3 * k : Nat) : Int)) = ((2 + 3 * k : Nat) : Int) := by rw [IntKind.wrap_i64]; omega
  have wc : IntKind.i64.wrap (3 + ((3 * k : Nat) : Int)) = ((3 + 3 * k : Nat) : Int) := by rw [IntKind.wrap_i64]; omega
  have wd : IntKind.i64.wrap (26 + (k : Int)) = 26 + (k : Int) := by rw [IntKind.wrap_i64]; omega
  refine vc_soundN 1000 ?_
  simp (config := { maxSteps := 2000000 }) only [heapS, w1, w3, wa, wb, wc, wd, ↓wPre, wPost, wFast, Nat.zero_add, Nat.add_zero, Nat.zero_lt_succ, Nat.min_self, Nat.zero_min, Nat.min_zero, Nat.sub_zero, Nat.zero_mul, Int.le_refl, Nat.le_refl, Nat.lt_irrefl, Nat.mul_one, Bool.false_eq_true, Bool.true_eq_false, decide_true, decide_false, decide_eq_true_eq, decide_eq_false_iff_not, Bool.not_true, Bool.not_false, Bool.not_eq_true', Bool.not_eq_false', Bool.and_true, Bool.true_and, Bool.false_and, beq_self_eq_true, ite_true, ite_false, true_and, and_true, false_and, and_false, not_true_eq_false, not_false_eq_true, false_implies, true_implies, implies_true, eq_self, ne_eq, or_true, true_or, or_false, false_or, Bool.or_false, Bool.or_true, Bool.false_or, Bool.true_or, Int.natCast_nonneg, Int.ofNat_lt, Int.ofNat_le, Int.ofNat_inj, Int.ofNat_zero, ↓reduceIte, reduceIte, Nat.reducePow, Nat.reduceLT, Nat.reduceLeDiff, Nat.reduceEqDiff, Nat.reduceAdd, Nat.reduceMul, Nat.reduceSub, Nat.reduceBEq, reduceCtorEq, sl1, wFacts, gmA]
  have hgl := filt_len (fun k => decide (kindS l k = 0)) k
  have hbl := filt_len (fun k => decide (kindS l k = 1)) k
  refine ⟨fun hk' => ?_, fun hk' => ?_⟩
  rotate_left
  · obtain rfl : k = numS l := by omega
    refine retCellP (v := .agg [.osl 2 (numS l) 1 0 (numS l), .osl 3 (numS l) 1 0 (numS l), .osl 4 (goalS l (numS l)).length 1 0 (goalS l (numS l)).length, .osl 5 (badS l (numS l)).length 1 0 (badS l (numS l)).length]) rfl ?_ ?_
    · simp [AS.get, aload, ldk25, rd, cellsFrom, upd, oif_true]
    · rw [hV]
      exact sees_agg ⟨sees_intsE rfl rfl (tab_len _ _).symm rfl (Nat.le_of_eq (tab_len _ _)), sees_rowE settled_ints rfl rfl (nextS_len _ _ _).symm rfl (Nat.le_of_eq (nextS_len _ _ _)),
        sees_intsE rfl rfl rfl rfl (Nat.le_refl _), sees_intsE rfl rfl rfl rfl (Nat.le_refl _), trivial⟩
  have hown : appF k (slF I 0 (tab (ownS l) k)) 1 (ofL [.int .i64 (atF l ((1 + 3 * k : Nat) : Int) 2)]) = slF I 0 (tab (ownS l) (k + 1)) := by
    have := appF_I (tab (ownS l) k) (ownS l k)
    rw [tab_len] at this
    rw [tab_succ]; exact this
  refine call_fn (at_fn l (1 + 3 * k : Nat) 2 ha (by omega)) rfl ?_
  simp (config := { maxSteps := 2000000 }) only [w1, w3, wa, wb, wc, wd, hown, ↓wPre, wPost, wFast, Nat.zero_add, Nat.add_zero, Nat.zero_lt_succ, Nat.min_self, Nat.zero_min, Nat.min_zero, Nat.sub_zero, Nat.zero_mul, Int.le_refl, Nat.le_refl, Nat.lt_irrefl, Nat.mul_one, Bool.false_eq_true, Bool.true_eq_false, decide_true, decide_false, decide_eq_true_eq, decide_eq_false_iff_not, Bool.not_true, Bool.not_false, Bool.not_eq_true', Bool.not_eq_false', Bool.and_true, Bool.true_and, Bool.false_and, beq_self_eq_true, ite_true, ite_false, true_and, and_true, false_and, and_false, not_true_eq_false, not_false_eq_true, false_implies, true_implies, implies_true, eq_self, ne_eq, or_true, true_or, or_false, false_or, Bool.or_false, Bool.or_true, Bool.false_or, Bool.true_or, Int.natCast_nonneg, Int.ofNat_lt, Int.ofNat_le, Int.ofNat_inj, Int.ofNat_zero, ↓reduceIte, reduceIte, Nat.reducePow, Nat.reduceLT, Nat.reduceLeDiff, Nat.reduceEqDiff, Nat.reduceAdd, Nat.reduceMul, Nat.reduceSub, Nat.reduceBEq, reduceCtorEq, sl1, wFacts, gmA]
  refine ⟨⟨by omega, by omega⟩, call_fn (at_fn l (2 + 3 * k : Nat) 256 ha (by omega)) rfl ?_⟩
  simp (config := { maxSteps := 2000000 }) only [w1, w3, wa, wb, wc, wd, ↓wPre, wPost, wFast, Nat.zero_add, Nat.add_zero, Nat.zero_lt_succ, Nat.min_self, Nat.zero_min, Nat.min_zero, Nat.sub_zero, Nat.zero_mul, Int.le_refl, Nat.le_refl, Nat.lt_irrefl, Nat.mul_one, Bool.false_eq_true, Bool.true_eq_false, decide_true, decide_false, decide_eq_true_eq, decide_eq_false_iff_not, Bool.not_true, Bool.not_false, Bool.not_eq_true', Bool.not_eq_false', Bool.and_true, Bool.true_and, Bool.false_and, beq_self_eq_true, ite_true, ite_false, true_and, and_true, false_and, and_false, not_true_eq_false, not_false_eq_true, false_implies, true_implies, implies_true, eq_self, ne_eq, or_true, true_or, or_false, false_or, Bool.or_false, Bool.or_true, Bool.false_or, Bool.true_or, Int.natCast_nonneg, Int.ofNat_lt, Int.ofNat_le, Int.ofNat_inj, Int.ofNat_zero, ↓reduceIte, reduceIte, Nat.reducePow, Nat.reduceLT, Nat.reduceLeDiff, Nat.reduceEqDiff, Nat.reduceAdd, Nat.reduceMul, Nat.reduceSub, Nat.reduceBEq, reduceCtorEq, sl1, wFacts, gmA]
  refine call_fn (at_fn l (3 + 3 * k : Nat) 3 ha (by omega)) rfl ?_
  simp (config := { maxSteps := 2000000 }) only [w1, w3, wa, wb, wc, wd, ↓wPre, wPost, wFast, Nat.zero_add, Nat.add_zero, Nat.zero_lt_succ, Nat.min_self, Nat.zero_min, Nat.min_zero, Nat.sub_zero, Nat.zero_mul, Int.le_refl, Nat.le_refl, Nat.lt_irrefl, Nat.mul_one, Bool.false_eq_true, Bool.true_eq_false, decide_true, decide_false, decide_eq_true_eq, decide_eq_false_iff_not, Bool.not_true, Bool.not_false, Bool.not_eq_true', Bool.not_eq_false', Bool.and_true, Bool.true_and, Bool.false_and, beq_self_eq_true, ite_true, ite_false, true_and, and_true, false_and, and_false, not_true_eq_false, not_false_eq_true, false_implies, true_implies, implies_true, eq_self, ne_eq, or_true, true_or, or_false, false_or, Bool.or_false, Bool.or_true, Bool.false_or, Bool.true_or, Int.natCast_nonneg, Int.ofNat_lt, Int.ofNat_le, Int.ofNat_inj, Int.ofNat_zero, ↓reduceIte, reduceIte, Nat.reducePow, Nat.reduceLT, Nat.reduceLeDiff, Nat.reduceEqDiff, Nat.reduceAdd, Nat.reduceMul, Nat.reduceSub, Nat.reduceBEq, reduceCtorEq, sl1, wFacts, gmA]
  refine join_call ⟨10, [], [ints l, .any, .ref 0 0 0, I (numS l), .ref 1 0 0, I k, I (bitS l k), emptS, I 0, .any], [], [.row 0 4 (fun _ => emptS), .row 0 4 (ofL [.osl 2 (k + 1) 1 0 (k + 1), .osl 3 k 1 0 k, .osl 4 (goalS l k).length 1 0 (goalS l k).length, .osl 5 (badS l k).length 1 0 (badS l k).length]),
     .row (k + 1) (k + 1) (slF I 0 (tab (ownS l) (k + 1))), .row k k (slF ints [] (nextS l (numS l) k)), .row (goalS l k).length (goalS l k).length (slF I 0 (goalS l k)), .row (badS l k).length (badS l k).length (slF I 0 (badS l k))]⟩ (fun hrun c => ?_) (fun c => ?_) ?_
  · refine call_fn (at_fn l (3 + 3 * k : Nat) 256 ha (by omega)) rfl ?_
    simp (config := { maxSteps := 2000000 }) only [w1, w3, wa, wb, wc, wd, ↓wPre, wPost, wFast, Nat.zero_add, Nat.add_zero, Nat.zero_lt_succ, Nat.min_self, Nat.zero_min, Nat.min_zero, Nat.sub_zero, Nat.zero_mul, Int.le_refl, Nat.le_refl, Nat.lt_irrefl, Nat.mul_one, Bool.false_eq_true, Bool.true_eq_false, decide_true, decide_false, decide_eq_true_eq, decide_eq_false_iff_not, Bool.not_true, Bool.not_false, Bool.not_eq_true', Bool.not_eq_false', Bool.and_true, Bool.true_and, Bool.false_and, beq_self_eq_true, ite_true, ite_false, true_and, and_true, false_and, and_false, not_true_eq_false, not_false_eq_true, false_implies, true_implies, implies_true, eq_self, ne_eq, or_true, true_or, or_false, false_or, Bool.or_false, Bool.or_true, Bool.false_or, Bool.true_or, Int.natCast_nonneg, Int.ofNat_lt, Int.ofNat_le, Int.ofNat_inj, Int.ofNat_zero, ↓reduceIte, reduceIte, Nat.reducePow, Nat.reduceLT, Nat.reduceLeDiff, Nat.reduceEqDiff, Nat.reduceAdd, Nat.reduceMul, Nat.reduceSub, Nat.reduceBEq, reduceCtorEq, sl1, wFacts, gmA]
    have hbit : bitS l k = iand .i64 (atF l (2 + 3 * k : Nat) 256) (atF l (3 + 3 * k : Nat) 256) := if_pos c
    exact hrun.sub (sub_mk rfl (by simp [subL, ints, sl1, I, hbit, emptS]) (by simp [subT]) (by simp [emptS]))
  · have hbit : bitS l k = atF l (2 + 3 * k : Nat) 256 := if_neg c
    exact sub_mk rfl (by simp [subL, ints, sl1, I, hbit, emptS]) (by simp [subT]) (by simp [emptS])
  have hpl : ∀ m, (pickB (bitS l k) m).length ≤ m := fun m => filt_len _ m
  refine run_loop (fun m : Nat => ⟨10, [], [ints l, .any, .ref 0 0 0, I (numS l), .ref 1 0 0, I k, I (bitS l k), .osl 6 (pickB (bitS l k) m).length 1 0 (pickB (bitS l k) m).length, I m, .any], [], [.row 0 4 (fun _ => emptS), .row 0 4 (ofL [.osl 2 (k + 1) 1 0 (k + 1), .osl 3 k 1 0 k, .osl 4 (goalS l k).length 1 0 (goalS l k).length, .osl 5 (badS l k).length 1 0 (badS l k).length]),
     .row (k + 1) (k + 1) (slF I 0 (tab (ownS l) (k + 1))), .row k k (slF ints [] (nextS l (numS l) k)), .row (goalS l k).length (goalS l k).length (slF I 0 (goalS l k)), .row (badS l k).length (badS l k).length (slF I 0 (badS l k)), .row (pickB (bitS l k) m).length (pickB (bitS l k) m).length (slF I 0 (pickB (bitS l k) m))]⟩)
    (fun m => m ≤ numS l) (fun m => numS l - m) 0 (by omega) ((sub_adopt 7 1 (slF I 0 []) rfl).trans (sub_mk rfl (by simp [AS.put, subL, ints, sl1, I, pickB, allN]) (by simp [AS.put, subT]) (by simp [AS.put, pickB, allN]))) ?_
  intro m hm nextm
  have w2 := wj m (by omega)
  have hpm := hpl m
  have hpick : appF (pickB (bitS l k) m).length (slF I 0 (pickB (bitS l k) m)) 1 (ofL [.int .i64 m]) = slF I 0 (pickB (bitS l k) m ++ [(m : Int)]) := appF_I _ _
  refine vc_soundN 1000 ?_
  simp (config := { maxSteps := 2000000 }) only [emptS, w1, w2, w3, wa, wb, wc, wd, hpick, ↓wPre, wPost, wFast, Nat.zero_add, Nat.add_zero, Nat.zero_lt_succ, Nat.min_self, Nat.zero_min, Nat.min_zero, Nat.sub_zero, Nat.zero_mul, Int.le_refl, Nat.le_refl, Nat.lt_irrefl, Nat.mul_one, Bool.false_eq_true, Bool.true_eq_false, decide_true, decide_false, decide_eq_true_eq, decide_eq_false_iff_not, Bool.not_true, Bool.not_false, Bool.not_eq_true', Bool.not_eq_false', Bool.and_true, Bool.true_and, Bool.false_and, beq_self_eq_true, ite_true, ite_false, true_and, and_true, false_and, and_false, not_true_eq_false, not_false_eq_true, false_implies, true_implies, implies_true, eq_self, ne_eq, or_true, true_or, or_false, false_or, Bool.or_false, Bool.or_true, Bool.false_or, Bool.true_or, Int.natCast_nonneg, Int.ofNat_lt, Int.ofNat_le, Int.ofNat_inj, Int.ofNat_zero, ↓reduceIte, reduceIte, Nat.reducePow, Nat.reduceLT, Nat.reduceLeDiff, Nat.reduceEqDiff, Nat.reduceAdd, Nat.reduceMul, Nat.reduceSub, Nat.reduceBEq, reduceCtorEq, sl1, wFacts, gmA]
  have hps : pickB (bitS l k) (m + 1) = pickB (bitS l k) m ++ (if isB (bitS l k) m then [(m : Int)] else []) := filt_succ _ _
  refine ⟨fun hm' => ⟨fun hc => ⟨⟨by omega, by omega⟩, ?_⟩, fun hc => ?_⟩, fun hm' => ?_⟩
  · rw [if_pos (show isB (bitS l k) m from hc)] at hps
    exact nextm (m + 1) _ (by omega) (by omega) (sub_mk rfl (by simp [subL, ints, sl1, I, hps]) (by simp [subT]) (by simp [emptS, hps]))
  · rw [if_neg (show ¬ isB (bitS l k) m from hc), List.append_nil] at hps
    exact nextm (m + 1) _ (by omega) (by omega) (sub_mk rfl (by simp [subL, ints, sl1, I, hps]) (by simp [subT]) (by simp [emptS, hps]))
  obtain rfl : m = numS l := by omega
  refine ⟨⟨by omega, by omega⟩, call_fn (at_fn l (26 + k) 6 ha (by omega)) rfl ?_⟩
  have hkg : appF (goalS l k).length (slF I 0 (goalS l k)) 1 (ofL [.int .i64 k]) = slF I 0 (goalS l k ++ [(k : Int)]) := appF_I _ _
  have hkb : appF (badS l k).length (slF I 0 (badS l k)) 1 (ofL [.int .i64 k]) = slF I 0 (badS l k ++ [(k : Int)]) := appF_I _ _
  have hgs : goalS l (k + 1) = goalS l k ++ (if kindS l k = 0 then [(k : Int)] else []) := filt_succ _ _
  have hbs : badS l (k + 1) = badS l k ++ (if kindS l k = 1 then [(k : Int)] else []) := filt_succ _ _
  have hkind : kindS l k = atF l (26 + k) 6 := rfl
  have hgl' : (goalS l k).length ≤ k := hgl
  have hbl' : (badS l k).length ≤ k := hbl
  have hroww : ∀ H : List AO, H[6]? = some (.con (pickB (bitS l k) (numS l)).length (pickB (bitS l k) (numS l)).length (slF I 0 (pickB (bitS l k) (numS l)))) → ∀ j, j < k + 1 →
      WeakIn H (appF k (slF ints [] (nextS l (numS l) k)) 1 (ofL [.osl 6 (pickB (bitS l k) (numS l)).length 1 0 (pickB (bitS l k) (numS l)).length]) j) (slF ints [] (nextS l (numS l) (k + 1)) j) := fun H hH j hj => by
    unfold appF
    by_cases e : j < k
    · rw [if_pos e, slF_at, slF_at, nextS_succ, List.getD_eq_getElem?_getD, List.getD_eq_getElem?_getD, List.getElem?_append_left (by rw [nextS_len]; exact e)]
      exact weakIn_rfl _ _
    · obtain rfl : j = k := by omega
      rw [if_neg e, if_pos (by omega), slF_at, nextS_succ, List.getD_eq_getElem?_getD, List.getElem?_append_right (by rw [nextS_len]; exact Nat.le_refl _), nextS_len, Nat.sub_self]
      exact weakIn_osl hH (Nat.le_refl _) (fun h => h) (fun q _ => weakIn_rfl _ _)
  simp (config := { maxSteps := 2000000 }) only [emptS, w1, w2, w3, wa, wb, wc, wd, hkg, hkb, ↓wPre, wPost, wFast, Nat.zero_add, Nat.add_zero, Nat.zero_lt_succ, Nat.min_self, Nat.zero_min, Nat.min_zero, Nat.sub_zero, Nat.zero_mul, Int.le_refl, Nat.le_refl, Nat.lt_irrefl, Nat.mul_one, Bool.false_eq_true, Bool.true_eq_false, decide_true, decide_false, decide_eq_true_eq, decide_eq_false_iff_not, Bool.not_true, Bool.not_false, Bool.not_eq_true', Bool.not_eq_false', Bool.and_true, Bool.true_and, Bool.false_and, beq_self_eq_true, ite_true, ite_false, true_and, and_true, false_and, and_false, not_true_eq_false, not_false_eq_true, false_implies, true_implies, implies_true, eq_self, ne_eq, or_true, true_or, or_false, false_or, Bool.or_false, Bool.or_true, Bool.false_or, Bool.true_or, Int.natCast_nonneg, Int.ofNat_lt, Int.ofNat_le, Int.ofNat_inj, Int.ofNat_zero, ↓reduceIte, reduceIte, Nat.reducePow, Nat.reduceLT, Nat.reduceLeDiff, Nat.reduceEqDiff, Nat.reduceAdd, Nat.reduceMul, Nat.reduceSub, Nat.reduceBEq, reduceCtorEq, sl1, wFacts, gmA]
  refine ⟨fun c0 => ⟨⟨by omega, by omega⟩, fun c1 => ?_, fun c1 => ?_⟩, fun c0 => ⟨fun c1 => ⟨⟨by omega, by omega⟩, ?_⟩, fun c1 => ?_⟩⟩
  · omega
  all_goals
    simp only [hkind, c0, c1, if_true, if_false, List.append_nil] at hgs hbs
    refine next (k + 1) _ (by omega) (by omega) ((sub_con 6 rfl).trans ((sub_roww 3 (slF ints [] (nextS l (numS l) (k+1))) rfl (hroww _ rfl)).trans (sub_cut (m := 6) (Nat.zero_le _) rfl ?_ ?_ ?_ (by simp [wBel]) (by simp [wBel]) (by simp [heapS, emptS, wBel]))))
    · simp [subL, ints, sl1, I]
    · simp [subT]
    · simp [heapS, emptS, hgs, hbs]
end
end Go.Ab.G
