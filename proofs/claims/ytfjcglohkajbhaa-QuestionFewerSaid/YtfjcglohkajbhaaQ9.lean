/- Contracts of functions of this chapter, for every argument that fits, and what they need. -/
import Derived.Test.YtfjcglohkajbhaaQ8
set_option linter.unusedSimpArgs false
set_option linter.unusedVariables false
namespace Go.Ab.Q
open Go Go.RowKit Go.Proofs
noncomputable section
set_option maxRecDepth 10000
set_option maxHeartbeats 1000000
set_option linter.unusedSimpArgs false
open Classical

theorem conEq_free {h h' : List AO} (h1 : ∀ o ∈ h, ∀ v n f, o ≠ .con v n f) (h2 : ∀ o ∈ h', ∀ v n f, o ≠ .con v n f) : ConEq h h' := by
  intro id v n f
  constructor
  · intro h; exact absurd rfl (h1 _ (List.mem_of_getElem? h) v n f)
  · intro h; exact absurd rfl (h2 _ (List.mem_of_getElem? h) v n f)

theorem grow_fn (n : Nat) (h0 : 0 < n) (hn : n < 1073741824) : HCall Try.prog 47 [.sl 0 0 (fun _ => .any) true, I n] [] (.osl 0 0 1 0 0) [.row 0 n (fun _ => .int .i64 0)] := by
  refine HCall.intro (fn := Try.f47) Try.call47 Try.func47 rfl mixed 5 [] [] [] (by kernel_rfl) (Nat.le_of_ble_eq_true rfl) (vc_soundN 1000 ?_)
  have w1 : IntKind.i64.wrap n = (n : Int) := by rw [IntKind.wrap_i64]; omega
  have w0 : IntKind.i64.wrap 0 = 0 := rfl
  simp only [AS.start, Int.sub_zero, w0, w1, ↓wPre, wPost, List.getD_cons_succ, List.getD_cons_zero, List.set_cons_succ, List.set_cons_zero, List.map_cons, List.map_nil, List.all_cons, List.all_nil, List.length_cons, List.length_nil, List.cons_append, List.nil_append, List.append_nil, List.getElem?_cons_succ, List.getElem?_cons_zero, List.replicate_succ, List.replicate_zero, List.contains_cons, List.contains_nil, List.elem_cons, List.elem_nil, Nat.zero_add, Nat.add_zero, Nat.zero_lt_succ, Int.toNat_zero, Nat.min_self, Nat.zero_min, Nat.min_zero, Nat.sub_zero, Nat.zero_mul, Int.le_refl, Nat.le_refl, Option.getD_none, Option.getD_some, Int.toNat_one, Nat.lt_irrefl, Nat.mul_one, Bool.false_eq_true, Bool.true_eq_false, decide_true, decide_false, decide_eq_true_eq, decide_eq_false_iff_not, Bool.not_true, Bool.not_false, Bool.not_eq_true', Bool.not_eq_false', Bool.and_true, Bool.true_and, Bool.false_and, beq_self_eq_true, ite_true, ite_false, Option.map_some, Option.map_none, Option.isSome_some, true_and, and_true, false_and, and_false, not_true_eq_false, not_false_eq_true, false_implies, true_implies, implies_true, eq_self, ne_eq, or_true, true_or, or_false, false_or, Bool.or_false, Bool.or_true, Bool.false_or, Bool.true_or, Int.toNat_natCast, Int.natCast_nonneg, Int.ofNat_lt, Int.ofNat_le, Int.ofNat_inj, Int.ofNat_zero, ↓reduceIte, reduceIte, replT, filtT, countL, cls, look, aload, astore, aindex, afieldA, afield, aidx, apart, aslice, ibound, acap, azapp, abuildS, abuild, aFill, setL, zrep, asrc, aappend, aconv, alen, amake, amkmap, alookup, aupdate, aalloc, abox, newO, place, rd, Nat.reducePow, AV.isPtr, Nat.reduceLT, Nat.reduceLeDiff, Nat.reduceEqDiff, Nat.reduceAdd, Nat.reduceMul, Nat.reduceSub, Nat.reduceBEq, updL, cellsFrom, reduceCtorEq, ints, bools, intss, sl1, wFacts]
  refine ⟨fun h => by omega, fun h => ⟨fun _ => ?_, fun h => by omega⟩⟩
  refine ⟨by omega, retH1 rfl rfl rfl⟩

theorem flat_take (L : List (List Int)) (j : Nat) (h : j < L.length) : (L.take (j + 1)).flatten = (L.take j).flatten ++ L.getD j [] := by
  rw [take_succ_getD L [] j h]; simp
theorem flat_len (L : List (List Int)) (j : Nat) : (L.take j).flatten.length ≤ L.flatten.length := by
  have e := congrArg List.flatten (List.take_append_drop j L)
  rw [List.flatten_append] at e
  rw [← e, List.length_append]; omega
theorem concat_fn (L : List (List Int)) (hL : L.length < 1048576) (h0 : 0 < L.flatten.length) (h1 : L.flatten.length < 1073741824) :
    Fn Try.prog 35 [intss L] (ints L.flatten) := by
  refine Fn.intro (fn := Try.f35) Try.call35 Try.func35 rfl mixed 9 [9, 10, 11, 25, 26, 27] [] [] (by kernel_rfl) (Nat.le_of_ble_eq_true rfl) (by simp [settled_ints, settled_I, settled_fn0, settled_intss, settled_bool, settled_tree, settled_nil]) (vc_soundN 1000 ?_); simp (config := { maxSteps := 2000000 }) only [AS.start, ↓wPre, wPost, List.getD_cons_succ, List.getD_cons_zero, List.set_cons_succ, List.set_cons_zero, List.map_cons, List.map_nil, List.all_cons, List.all_nil, List.length_cons, List.length_nil, List.cons_append, List.nil_append, List.append_nil, List.getElem?_cons_succ, List.getElem?_cons_zero, List.replicate_succ, List.replicate_zero, List.contains_cons, List.contains_nil, List.elem_cons, List.elem_nil, Nat.zero_add, Nat.add_zero, Nat.zero_lt_succ, Int.toNat_zero, Nat.min_self, Nat.zero_min, Nat.min_zero, Nat.sub_zero, Nat.zero_mul, Int.le_refl, Nat.le_refl, Option.getD_none, Option.getD_some, Int.toNat_one, Nat.lt_irrefl, Nat.mul_one, Bool.false_eq_true, Bool.true_eq_false, decide_true, decide_false, decide_eq_true_eq, decide_eq_false_iff_not, Bool.not_true, Bool.not_false, Bool.not_eq_true', Bool.not_eq_false', Bool.and_true, Bool.true_and, Bool.false_and, beq_self_eq_true, ite_true, ite_false, Option.map_some, Option.map_none, Option.isSome_some, true_and, and_true, false_and, and_false, not_true_eq_false, not_false_eq_true, false_implies, true_implies, implies_true, eq_self, ne_eq, or_true, true_or, or_false, false_or, Bool.or_false, Bool.or_true, Bool.false_or, Bool.true_or, Int.toNat_natCast, Int.natCast_nonneg, Int.ofNat_lt, Int.ofNat_le, Int.ofNat_inj, Int.ofNat_zero, ↓reduceIte, reduceIte, replT, filtT, countL, cls, look, aload, astore, aindex, afieldA, afield, aidx, apart, aslice, ibound, acap, azapp, abuildS, abuild, aFill, setL, zrep, asrc, aappend, aconv, alen, amake, amkmap, alookup, aupdate, aalloc, abox, newO, place, rd, Nat.reducePow, AV.isPtr, Nat.reduceLT, Nat.reduceLeDiff, Nat.reduceEqDiff, Nat.reduceAdd, Nat.reduceMul, Nat.reduceSub, Nat.reduceBEq, updL, cellsFrom, reduceCtorEq, ints, bools, intss, sl1, wFacts]
  refine run_loop (fun j : Nat => ⟨9, [9, 10, 11, 25, 26, 27], [intss L, .any, .sl 0 0 (fun _ => .any) true, I ((L.take j).flatten.length), .any, .any, .any, .any, .any], [(9, intss L), (10, I L.length), (11, I j)], []⟩) (fun j => j ≤ L.length) (fun j => L.length - j) 0 (by omega)
    (sub_mk rfl (by simp [subL, intss, sl1, I]) (by simp [subT, look, intss, sl1, I]) rfl) ?_
  intro j hj next
  have w1 := wj j (by omega)
  have hfl := flat_len L j
  have hfl2 := flat_len L (j + 1)
  refine vc_soundN 1000 ?_
  simp only [w1, ↓wPre, wPost, List.getD_cons_succ, List.getD_cons_zero, List.set_cons_succ, List.set_cons_zero, List.map_cons, List.map_nil, List.all_cons, List.all_nil, List.length_cons, List.length_nil, List.cons_append, List.nil_append, List.append_nil, List.getElem?_cons_succ, List.getElem?_cons_zero, List.replicate_succ, List.replicate_zero, List.contains_cons, List.contains_nil, List.elem_cons, List.elem_nil, Nat.zero_add, Nat.add_zero, Nat.zero_lt_succ, Int.toNat_zero, Nat.min_self, Nat.zero_min, Nat.min_zero, Nat.sub_zero, Nat.zero_mul, Int.le_refl, Nat.le_refl, Option.getD_none, Option.getD_some, Int.toNat_one, Nat.lt_irrefl, Nat.mul_one, Bool.false_eq_true, Bool.true_eq_false, decide_true, decide_false, decide_eq_true_eq, decide_eq_false_iff_not, Bool.not_true, Bool.not_false, Bool.not_eq_true', Bool.not_eq_false', Bool.and_true, Bool.true_and, Bool.false_and, beq_self_eq_true, ite_true, ite_false, Option.map_some, Option.map_none, Option.isSome_some, true_and, and_true, false_and, and_false, not_true_eq_false, not_false_eq_true, false_implies, true_implies, implies_true, eq_self, ne_eq, or_true, true_or, or_false, false_or, Bool.or_false, Bool.or_true, Bool.false_or, Bool.true_or, Int.toNat_natCast, Int.natCast_nonneg, Int.ofNat_lt, Int.ofNat_le, Int.ofNat_inj, Int.ofNat_zero, ↓reduceIte, reduceIte, replT, filtT, countL, cls, look, aload, astore, aindex, afieldA, afield, aidx, apart, aslice, ibound, acap, azapp, abuildS, abuild, aFill, setL, zrep, asrc, aappend, aconv, alen, amake, amkmap, alookup, aupdate, aalloc, abox, newO, place, rd, Nat.reducePow, AV.isPtr, Nat.reduceLT, Nat.reduceLeDiff, Nat.reduceEqDiff, Nat.reduceAdd, Nat.reduceMul, Nat.reduceSub, Nat.reduceBEq, updL, cellsFrom, reduceCtorEq, ints, bools, intss, sl1, wFacts]
  refine ⟨fun h => ?_, fun h => ?_⟩
  · have e1 : (L.take (j + 1)).flatten.length = (L.take j).flatten.length + (L.getD j []).length := by rw [flat_take L j h]; simp
    have e2 : IntKind.i64.wrap (((L.take j).flatten.length : Int) + ((L.getD j []).length : Int)) = ((L.take (j + 1)).flatten.length : Int) := by rw [IntKind.wrap_i64]; omega
    simp only [e2]
    refine ⟨h, h, fun h => by omega, fun h => next (j + 1) _ (by omega) (by omega) (sub_mk rfl (by simp [subL, intss, sl1, I]) (by simp [subT, look, intss, sl1, I]) rfl)⟩
  obtain rfl : j = L.length := by omega
  rw [List.take_length]
  refine call_heap rfl (grow_fn L.flatten.length h0 h1) (conEq_free (by simp) (by simp)) (by simp) ⟨Weak.rfl' _, Weak.rfl' _, trivial⟩ ?_
  simp only [↓wPre, wPost, List.getD_cons_succ, List.getD_cons_zero, List.set_cons_succ, List.set_cons_zero, List.map_cons, List.map_nil, List.all_cons, List.all_nil, List.length_cons, List.length_nil, List.cons_append, List.nil_append, List.append_nil, List.getElem?_cons_succ, List.getElem?_cons_zero, List.replicate_succ, List.replicate_zero, List.contains_cons, List.contains_nil, List.elem_cons, List.elem_nil, Nat.zero_add, Nat.add_zero, Nat.zero_lt_succ, Int.toNat_zero, Nat.min_self, Nat.zero_min, Nat.min_zero, Nat.sub_zero, Nat.zero_mul, Int.le_refl, Nat.le_refl, Option.getD_none, Option.getD_some, Int.toNat_one, Nat.lt_irrefl, Nat.mul_one, Bool.false_eq_true, Bool.true_eq_false, decide_true, decide_false, decide_eq_true_eq, decide_eq_false_iff_not, Bool.not_true, Bool.not_false, Bool.not_eq_true', Bool.not_eq_false', Bool.and_true, Bool.true_and, Bool.false_and, beq_self_eq_true, ite_true, ite_false, Option.map_some, Option.map_none, Option.isSome_some, true_and, and_true, false_and, and_false, not_true_eq_false, not_false_eq_true, false_implies, true_implies, implies_true, eq_self, ne_eq, or_true, true_or, or_false, false_or, Bool.or_false, Bool.or_true, Bool.false_or, Bool.true_or, Int.toNat_natCast, Int.natCast_nonneg, Int.ofNat_lt, Int.ofNat_le, Int.ofNat_inj, Int.ofNat_zero, ↓reduceIte, reduceIte, replT, filtT, countL, cls, look, aload, astore, aindex, afieldA, afield, aidx, apart, aslice, ibound, acap, azapp, abuildS, abuild, aFill, setL, zrep, asrc, aappend, aconv, alen, amake, amkmap, alookup, aupdate, aalloc, abox, newO, place, rd, Nat.reducePow, AV.isPtr, Nat.reduceLT, Nat.reduceLeDiff, Nat.reduceEqDiff, Nat.reduceAdd, Nat.reduceMul, Nat.reduceSub, Nat.reduceBEq, updL, cellsFrom, reduceCtorEq, ints, bools, intss, sl1, wFacts]
  refine run_loop (fun j : Nat => ⟨9, [9, 10, 11, 25, 26, 27], [intss L, .any, .any, .any, .any, .any, .osl 0 j 1 0 ((L.take j).flatten.length), .any, .any], [(25, intss L), (26, I L.length), (27, I j)], [.row j ((L.take j).flatten.length) (slF I 0 (L.take j).flatten)]⟩) (fun j => j ≤ L.length) (fun j => L.length - j) 0 (by omega)
    ((sub_rowf 0 0 (slF I 0 []) rfl (by omega) (by intro j hj; omega)).trans (sub_mk rfl (by simp [subL, intss, sl1, I]) (by simp [subT, look, intss, sl1, I]) (by simp))) ?_
  intro j hj next
  have w1 := wj j (by omega)
  have hfl := flat_len L j
  have hfl2 := flat_len L (j + 1)
  refine vc_soundN 1000 ?_
  simp only [w1, ↓wPre, wPost, List.getD_cons_succ, List.getD_cons_zero, List.set_cons_succ, List.set_cons_zero, List.map_cons, List.map_nil, List.all_cons, List.all_nil, List.length_cons, List.length_nil, List.cons_append, List.nil_append, List.append_nil, List.getElem?_cons_succ, List.getElem?_cons_zero, List.replicate_succ, List.replicate_zero, List.contains_cons, List.contains_nil, List.elem_cons, List.elem_nil, Nat.zero_add, Nat.add_zero, Nat.zero_lt_succ, Int.toNat_zero, Nat.min_self, Nat.zero_min, Nat.min_zero, Nat.sub_zero, Nat.zero_mul, Int.le_refl, Nat.le_refl, Option.getD_none, Option.getD_some, Int.toNat_one, Nat.lt_irrefl, Nat.mul_one, Bool.false_eq_true, Bool.true_eq_false, decide_true, decide_false, decide_eq_true_eq, decide_eq_false_iff_not, Bool.not_true, Bool.not_false, Bool.not_eq_true', Bool.not_eq_false', Bool.and_true, Bool.true_and, Bool.false_and, beq_self_eq_true, ite_true, ite_false, Option.map_some, Option.map_none, Option.isSome_some, true_and, and_true, false_and, and_false, not_true_eq_false, not_false_eq_true, false_implies, true_implies, implies_true, eq_self, ne_eq, or_true, true_or, or_false, false_or, Bool.or_false, Bool.or_true, Bool.false_or, Bool.true_or, Int.toNat_natCast, Int.natCast_nonneg, Int.ofNat_lt, Int.ofNat_le, Int.ofNat_inj, Int.ofNat_zero, ↓reduceIte, reduceIte, replT, filtT, countL, cls, look, aload, astore, aindex, afieldA, afield, aidx, apart, aslice, ibound, acap, azapp, abuildS, abuild, aFill, setL, zrep, asrc, aappend, aconv, alen, amake, amkmap, alookup, aupdate, aalloc, abox, newO, place, rd, Nat.reducePow, AV.isPtr, Nat.reduceLT, Nat.reduceLeDiff, Nat.reduceEqDiff, Nat.reduceAdd, Nat.reduceMul, Nat.reduceSub, Nat.reduceBEq, updL, cellsFrom, reduceCtorEq, ints, bools, intss, sl1, wFacts]
  refine ⟨fun h => ?_, fun h => ?_⟩
  · have e1 : (L.take (j + 1)).flatten.length = (L.take j).flatten.length + (L.getD j []).length := by rw [flat_take L j h]; simp
    refine ⟨h, h, by omega, next (j + 1) _ (by omega) (by omega) (sub_mk rfl (by simp [-List.getD_eq_getElem?_getD, subL, e1, I, intss, sl1]) (by simp [subT, look, intss, sl1, I]) ?_)⟩
    rw [flat_take L j h]; simp
  · obtain rfl : j = L.length := by omega
    exact ret1 rfl (sees_intsE rfl rfl (by simp) (by simp) (by simp))
end
end Go.Ab.Q
