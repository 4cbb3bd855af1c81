/- Contracts of functions of this chapter, for every argument that fits, and what they need. -/
import Derived.Test.YtfjcglohkajbhaaQ4
set_option linter.unusedSimpArgs false
set_option linter.unusedVariables false
namespace Go.Ab.Q
open Go Go.RowKit Go.Proofs
noncomputable section
set_option maxRecDepth 10000
set_option maxHeartbeats 1000000
set_option linter.unusedSimpArgs false
open Classical

theorem index_fn (s : List Int) (v : Int) (hl : s.length < 1048576) : ∃ r : Int, Fn Try.prog 49 [ints s, I v] (I r) ∧ (0 ≤ r ↔ v ∈ s) := by
  have key : ∀ r : Int, ((∃ j : Nat, (j < s.length ∧ s.getD j 0 = v ∧ ∀ i, i < j → s.getD i 0 ≠ v) ∧ r = j) ∨ (v ∉ s ∧ r = -1)) → Fn Try.prog 49 [ints s, I v] (I r) := by
    intro r hr
    refine Fn.intro (fn := Try.f49) Try.call49 Try.func49 rfl mixed 6 [6, 7, 8] [] [] (by kernel_rfl) (Nat.le_of_ble_eq_true rfl) (by simp [settled_ints, settled_I]) (vc_soundN 1000 ?_)
    simp only [AS.start, ↓wPre, wPost, List.getD_cons_succ, List.getD_cons_zero, List.set_cons_succ, List.set_cons_zero, List.map_cons, List.map_nil, List.all_cons, List.all_nil, List.length_cons, List.length_nil, List.cons_append, List.nil_append, List.append_nil, List.getElem?_cons_succ, List.getElem?_cons_zero, List.replicate_succ, List.replicate_zero, List.contains_cons, List.contains_nil, List.elem_cons, List.elem_nil, Nat.zero_add, Nat.add_zero, Nat.zero_lt_succ, Int.toNat_zero, Nat.min_self, Nat.zero_min, Nat.min_zero, Nat.sub_zero, Nat.zero_mul, Int.le_refl, Nat.le_refl, Option.getD_none, Option.getD_some, Int.toNat_one, Nat.lt_irrefl, Nat.mul_one, Bool.false_eq_true, Bool.true_eq_false, decide_true, decide_false, decide_eq_true_eq, decide_eq_false_iff_not, Bool.not_true, Bool.not_false, Bool.not_eq_true', Bool.not_eq_false', Bool.and_true, Bool.true_and, Bool.false_and, beq_self_eq_true, ite_true, ite_false, Option.map_some, Option.map_none, Option.isSome_some, true_and, and_true, false_and, and_false, not_true_eq_false, not_false_eq_true, false_implies, true_implies, implies_true, eq_self, ne_eq, or_true, true_or, or_false, false_or, Bool.or_false, Bool.or_true, Bool.false_or, Bool.true_or, Int.toNat_natCast, Int.natCast_nonneg, Int.ofNat_lt, Int.ofNat_le, Int.ofNat_inj, Int.ofNat_zero, ↓reduceIte, reduceIte, replT, filtT, countL, cls, look, aload, astore, aindex, afieldA, afield, aidx, apart, aslice, ibound, acap, azapp, abuildS, abuild, aFill, setL, zrep, asrc, aappend, aconv, alen, amake, amkmap, alookup, aupdate, aalloc, abox, newO, place, rd, Nat.reducePow, AV.isPtr, Nat.reduceLT, Nat.reduceLeDiff, Nat.reduceEqDiff, Nat.reduceAdd, Nat.reduceMul, Nat.reduceSub, Nat.reduceBEq, updL, cellsFrom, reduceCtorEq, ints, bools, intss, sl1, wFacts]
    refine run_loop (fun j : Nat => ⟨6, [6, 7, 8], [ints s, I v, .any, .any, .any, .any], [(6, ints s), (7, I s.length), (8, I j)], []⟩) (fun j => j ≤ s.length ∧ ∀ i, i < j → s.getD i 0 ≠ v) (fun j => s.length - j) 0 ⟨by omega, by omega⟩
      (sub_mk rfl (by simp [subL, ints, sl1, I]) (by simp [subT, look, ints, sl1, I]) rfl) ?_
    rintro j ⟨hj, hno⟩ next
    have w1 := wj j (by omega)
    refine vc_soundN 1000 ?_
    simp only [w1, ↓wPre, wPost, List.getD_cons_succ, List.getD_cons_zero, List.set_cons_succ, List.set_cons_zero, List.map_cons, List.map_nil, List.all_cons, List.all_nil, List.length_cons, List.length_nil, List.cons_append, List.nil_append, List.append_nil, List.getElem?_cons_succ, List.getElem?_cons_zero, List.replicate_succ, List.replicate_zero, List.contains_cons, List.contains_nil, List.elem_cons, List.elem_nil, Nat.zero_add, Nat.add_zero, Nat.zero_lt_succ, Int.toNat_zero, Nat.min_self, Nat.zero_min, Nat.min_zero, Nat.sub_zero, Nat.zero_mul, Int.le_refl, Nat.le_refl, Option.getD_none, Option.getD_some, Int.toNat_one, Nat.lt_irrefl, Nat.mul_one, Bool.false_eq_true, Bool.true_eq_false, decide_true, decide_false, decide_eq_true_eq, decide_eq_false_iff_not, Bool.not_true, Bool.not_false, Bool.not_eq_true', Bool.not_eq_false', Bool.and_true, Bool.true_and, Bool.false_and, beq_self_eq_true, ite_true, ite_false, Option.map_some, Option.map_none, Option.isSome_some, true_and, and_true, false_and, and_false, not_true_eq_false, not_false_eq_true, false_implies, true_implies, implies_true, eq_self, ne_eq, or_true, true_or, or_false, false_or, Bool.or_false, Bool.or_true, Bool.false_or, Bool.true_or, Int.toNat_natCast, Int.natCast_nonneg, Int.ofNat_lt, Int.ofNat_le, Int.ofNat_inj, Int.ofNat_zero, ↓reduceIte, reduceIte, replT, filtT, countL, cls, look, aload, astore, aindex, afieldA, afield, aidx, apart, aslice, ibound, acap, azapp, abuildS, abuild, aFill, setL, zrep, asrc, aappend, aconv, alen, amake, amkmap, alookup, aupdate, aalloc, abox, newO, place, rd, Nat.reducePow, AV.isPtr, Nat.reduceLT, Nat.reduceLeDiff, Nat.reduceEqDiff, Nat.reduceAdd, Nat.reduceMul, Nat.reduceSub, Nat.reduceBEq, updL, cellsFrom, reduceCtorEq, ints, bools, intss, sl1, wFacts]
    refine ⟨fun h => ⟨h, h, fun he => ?_, fun he => next (j + 1) _ ⟨by omega, fun i hi => ?_⟩ (by omega) (sub_mk rfl (by simp [subL, ints, sl1, I]) (by simp [subT, look, ints, sl1, I]) rfl)⟩, fun h => ?_⟩
    · refine ret1 rfl (sees_of (settled_I _) ?_)
      rcases hr with ⟨j', ⟨h1, h2, h3⟩, rfl⟩ | ⟨h1, rfl⟩
      · have : j = j' := by
          rcases Nat.lt_trichotomy j j' with h | h | h
          · exact absurd he.symm (h3 j h)
          · exact h
          · exact absurd h2 (hno j' h)
        subst this; rfl
      · exact absurd (he ▸ getD_mem h) h1
    · by_cases e : i = j
      · subst e; exact fun h => he h.symm
      · exact hno i (by omega)
    · obtain rfl : j = s.length := by omega
      refine ret1 rfl (sees_of (settled_I _) ?_)
      rcases hr with ⟨j', ⟨h1, h2, h3⟩, rfl⟩ | ⟨h1, rfl⟩
      · exact absurd h2 (hno j' h1)
      · rfl
  by_cases hv : v ∈ s
  · obtain ⟨j0, h0, h1⟩ := List.getElem_of_mem hv
    have hex : ∃ j, j < s.length ∧ s.getD j 0 = v := ⟨j0, h0, by rw [List.getD_eq_getElem?_getD, List.getElem?_eq_getElem h0]; exact h1⟩
    have least : ∀ n, (∃ j, j ≤ n ∧ j < s.length ∧ s.getD j 0 = v) → ∃ j, j < s.length ∧ s.getD j 0 = v ∧ ∀ i, i < j → s.getD i 0 ≠ v := by
      intro n
      induction n with
      | zero => rintro ⟨j, h1, h2, h3⟩; exact ⟨j, h2, h3, fun i hi => by omega⟩
      | succ n ih =>
        rintro ⟨j, h1, h2, h3⟩
        by_cases hq : ∃ j, j ≤ n ∧ j < s.length ∧ s.getD j 0 = v
        · exact ih hq
        · exact ⟨j, h2, h3, fun i hi he => hq ⟨i, by omega, by omega, he⟩⟩
    obtain ⟨j, h1, h2, h3⟩ := least s.length (by obtain ⟨j, a, b⟩ := hex; exact ⟨j, by omega, a, b⟩)
    exact ⟨j, key _ (.inl ⟨j, ⟨h1, h2, h3⟩, rfl⟩), by simp [hv]⟩
  · exact ⟨-1, key _ (.inr ⟨hv, rfl⟩), by simp [hv]⟩

theorem contains_fn (s : List Int) (v : Int) (hl : s.length < 1048576) : Fn Try.prog 43 [ints s, I v] (.bool (decide (v ∈ s))) := by
  obtain ⟨r, h1, h2⟩ := index_fn s v hl
  refine Fn.intro (fn := Try.f43) Try.call43 Try.func43 rfl mixed 5 [] [] [] (by kernel_rfl) (Nat.le_of_ble_eq_true rfl) (by simp [settled_ints, settled_I]) (vc_soundN 1000 ?_)
  simp only [AS.start, ↓wPre, wPost, List.getD_cons_succ, List.getD_cons_zero, List.set_cons_succ, List.set_cons_zero, List.map_cons, List.map_nil, List.all_cons, List.all_nil, List.length_cons, List.length_nil, List.cons_append, List.nil_append, List.append_nil, List.getElem?_cons_succ, List.getElem?_cons_zero, List.replicate_succ, List.replicate_zero, List.contains_cons, List.contains_nil, List.elem_cons, List.elem_nil, Nat.zero_add, Nat.add_zero, Nat.zero_lt_succ, Int.toNat_zero, Nat.min_self, Nat.zero_min, Nat.min_zero, Nat.sub_zero, Nat.zero_mul, Int.le_refl, Nat.le_refl, Option.getD_none, Option.getD_some, Int.toNat_one, Nat.lt_irrefl, Nat.mul_one, Bool.false_eq_true, Bool.true_eq_false, decide_true, decide_false, decide_eq_true_eq, decide_eq_false_iff_not, Bool.not_true, Bool.not_false, Bool.not_eq_true', Bool.not_eq_false', Bool.and_true, Bool.true_and, Bool.false_and, beq_self_eq_true, ite_true, ite_false, Option.map_some, Option.map_none, Option.isSome_some, true_and, and_true, false_and, and_false, not_true_eq_false, not_false_eq_true, false_implies, true_implies, implies_true, eq_self, ne_eq, or_true, true_or, or_false, false_or, Bool.or_false, Bool.or_true, Bool.false_or, Bool.true_or, Int.toNat_natCast, Int.natCast_nonneg, Int.ofNat_lt, Int.ofNat_le, Int.ofNat_inj, Int.ofNat_zero, ↓reduceIte, reduceIte, replT, filtT, countL, cls, look, aload, astore, aindex, afieldA, afield, aidx, apart, aslice, ibound, acap, azapp, abuildS, abuild, aFill, setL, zrep, asrc, aappend, aconv, alen, amake, amkmap, alookup, aupdate, aalloc, abox, newO, place, rd, Nat.reducePow, AV.isPtr, Nat.reduceLT, Nat.reduceLeDiff, Nat.reduceEqDiff, Nat.reduceAdd, Nat.reduceMul, Nat.reduceSub, Nat.reduceBEq, updL, cellsFrom, reduceCtorEq, ints, bools, intss, sl1, wFacts]
  refine call_fn h1 rfl ?_
  simp only [↓wPre, wPost, List.getD_cons_succ, List.getD_cons_zero, List.set_cons_succ, List.set_cons_zero, List.map_cons, List.map_nil, List.all_cons, List.all_nil, List.length_cons, List.length_nil, List.cons_append, List.nil_append, List.append_nil, List.getElem?_cons_succ, List.getElem?_cons_zero, List.replicate_succ, List.replicate_zero, List.contains_cons, List.contains_nil, List.elem_cons, List.elem_nil, Nat.zero_add, Nat.add_zero, Nat.zero_lt_succ, Int.toNat_zero, Nat.min_self, Nat.zero_min, Nat.min_zero, Nat.sub_zero, Nat.zero_mul, Int.le_refl, Nat.le_refl, Option.getD_none, Option.getD_some, Int.toNat_one, Nat.lt_irrefl, Nat.mul_one, Bool.false_eq_true, Bool.true_eq_false, decide_true, decide_false, decide_eq_true_eq, decide_eq_false_iff_not, Bool.not_true, Bool.not_false, Bool.not_eq_true', Bool.not_eq_false', Bool.and_true, Bool.true_and, Bool.false_and, beq_self_eq_true, ite_true, ite_false, Option.map_some, Option.map_none, Option.isSome_some, true_and, and_true, false_and, and_false, not_true_eq_false, not_false_eq_true, false_implies, true_implies, implies_true, eq_self, ne_eq, or_true, true_or, or_false, false_or, Bool.or_false, Bool.or_true, Bool.false_or, Bool.true_or, Int.toNat_natCast, Int.natCast_nonneg, Int.ofNat_lt, Int.ofNat_le, Int.ofNat_inj, Int.ofNat_zero, ↓reduceIte, reduceIte, replT, filtT, countL, cls, look, aload, astore, aindex, afieldA, afield, aidx, apart, aslice, ibound, acap, azapp, abuildS, abuild, aFill, setL, zrep, asrc, aappend, aconv, alen, amake, amkmap, alookup, aupdate, aalloc, abox, newO, place, rd, Nat.reducePow, AV.isPtr, Nat.reduceLT, Nat.reduceLeDiff, Nat.reduceEqDiff, Nat.reduceAdd, Nat.reduceMul, Nat.reduceSub, Nat.reduceBEq, updL, cellsFrom, reduceCtorEq, ints, bools, intss, sl1, wFacts]
  exact ret1 rfl (sees_of (settled_bool _) (by simp [AS.get, h2]))

theorem badc_fn (c : Int) : Fn Try.prog 45 [I c] (.bool (decide (c < 1 ∨ 1024 < c))) := by
  refine Fn.intro (fn := Try.f45) Try.call45 Try.func45 rfl mixed 3 [] [] [] (by kernel_rfl) (Nat.le_of_ble_eq_true rfl) (by simp [settled_I]) (vc_soundN 1000 ?_)
  simp only [AS.start, ↓wPre, wPost, List.getD_cons_succ, List.getD_cons_zero, List.set_cons_succ, List.set_cons_zero, List.map_cons, List.map_nil, List.all_cons, List.all_nil, List.length_cons, List.length_nil, List.cons_append, List.nil_append, List.append_nil, List.getElem?_cons_succ, List.getElem?_cons_zero, List.replicate_succ, List.replicate_zero, List.contains_cons, List.contains_nil, List.elem_cons, List.elem_nil, Nat.zero_add, Nat.add_zero, Nat.zero_lt_succ, Int.toNat_zero, Nat.min_self, Nat.zero_min, Nat.min_zero, Nat.sub_zero, Nat.zero_mul, Int.le_refl, Nat.le_refl, Option.getD_none, Option.getD_some, Int.toNat_one, Nat.lt_irrefl, Nat.mul_one, Bool.false_eq_true, Bool.true_eq_false, decide_true, decide_false, decide_eq_true_eq, decide_eq_false_iff_not, Bool.not_true, Bool.not_false, Bool.not_eq_true', Bool.not_eq_false', Bool.and_true, Bool.true_and, Bool.false_and, beq_self_eq_true, ite_true, ite_false, Option.map_some, Option.map_none, Option.isSome_some, true_and, and_true, false_and, and_false, not_true_eq_false, not_false_eq_true, false_implies, true_implies, implies_true, eq_self, ne_eq, or_true, true_or, or_false, false_or, Bool.or_false, Bool.or_true, Bool.false_or, Bool.true_or, Int.toNat_natCast, Int.natCast_nonneg, Int.ofNat_lt, Int.ofNat_le, Int.ofNat_inj, Int.ofNat_zero, ↓reduceIte, reduceIte, replT, filtT, countL, cls, look, aload, astore, aindex, afieldA, afield, aidx, apart, aslice, ibound, acap, azapp, abuildS, abuild, aFill, setL, zrep, asrc, aappend, aconv, alen, amake, amkmap, alookup, aupdate, aalloc, abox, newO, place, rd, Nat.reducePow, AV.isPtr, Nat.reduceLT, Nat.reduceLeDiff, Nat.reduceEqDiff, Nat.reduceAdd, Nat.reduceMul, Nat.reduceSub, Nat.reduceBEq, updL, cellsFrom, reduceCtorEq, ints, bools, intss, sl1, wFacts]
  refine ⟨fun h => ret1 rfl (sees_of (settled_bool _) ?_), fun h => ret1 rfl (sees_of (settled_bool _) ?_)⟩
  · simp [AS.get, h]
  · simp [AS.get, h]

def anyBad (s : List Int) : Prop := ∃ c ∈ s, c < 1 ∨ 1024 < c
theorem settled_fn0 (g : FuncId) : Settled (.fn g []) := settled_fn (by simp)
theorem indexf_fn (s : List Int) (hl : s.length < 1048576) : ∃ r : Int, Fn Try.prog 50 [ints s, .fn 45 []] (I r) ∧ (0 ≤ r ↔ anyBad s) := by
  have key : ∀ r : Int, ((∃ j : Nat, (j < s.length ∧ (s.getD j 0 < 1 ∨ 1024 < s.getD j 0) ∧ ∀ i, i < j → ¬ (s.getD i 0 < 1 ∨ 1024 < s.getD i 0)) ∧ r = j) ∨ (¬ anyBad s ∧ r = -1)) → Fn Try.prog 50 [ints s, .fn 45 []] (I r) := by
    intro r hr
    refine Fn.intro (fn := Try.f50) Try.call50 Try.func50 rfl mixed 6 [6, 7, 8] [] [] (by kernel_rfl) (Nat.le_of_ble_eq_true rfl) (by simp [settled_ints, settled_fn0]) (vc_soundN 1000 ?_)
    simp only [AS.start, ↓wPre, wPost, List.getD_cons_succ, List.getD_cons_zero, List.set_cons_succ, List.set_cons_zero, List.map_cons, List.map_nil, List.all_cons, List.all_nil, List.length_cons, List.length_nil, List.cons_append, List.nil_append, List.append_nil, List.getElem?_cons_succ, List.getElem?_cons_zero, List.replicate_succ, List.replicate_zero, List.contains_cons, List.contains_nil, List.elem_cons, List.elem_nil, Nat.zero_add, Nat.add_zero, Nat.zero_lt_succ, Int.toNat_zero, Nat.min_self, Nat.zero_min, Nat.min_zero, Nat.sub_zero, Nat.zero_mul, Int.le_refl, Nat.le_refl, Option.getD_none, Option.getD_some, Int.toNat_one, Nat.lt_irrefl, Nat.mul_one, Bool.false_eq_true, Bool.true_eq_false, decide_true, decide_false, decide_eq_true_eq, decide_eq_false_iff_not, Bool.not_true, Bool.not_false, Bool.not_eq_true', Bool.not_eq_false', Bool.and_true, Bool.true_and, Bool.false_and, beq_self_eq_true, ite_true, ite_false, Option.map_some, Option.map_none, Option.isSome_some, true_and, and_true, false_and, and_false, not_true_eq_false, not_false_eq_true, false_implies, true_implies, implies_true, eq_self, ne_eq, or_true, true_or, or_false, false_or, Bool.or_false, Bool.or_true, Bool.false_or, Bool.true_or, Int.toNat_natCast, Int.natCast_nonneg, Int.ofNat_lt, Int.ofNat_le, Int.ofNat_inj, Int.ofNat_zero, ↓reduceIte, reduceIte, replT, filtT, countL, cls, look, aload, astore, aindex, afieldA, afield, aidx, apart, aslice, ibound, acap, azapp, abuildS, abuild, aFill, setL, zrep, asrc, aappend, aconv, alen, amake, amkmap, alookup, aupdate, aalloc, abox, newO, place, rd, Nat.reducePow, AV.isPtr, Nat.reduceLT, Nat.reduceLeDiff, Nat.reduceEqDiff, Nat.reduceAdd, Nat.reduceMul, Nat.reduceSub, Nat.reduceBEq, updL, cellsFrom, reduceCtorEq, ints, bools, intss, sl1, wFacts]
    refine run_loop (fun j : Nat => ⟨6, [6, 7, 8], [ints s, .fn 45 [], .any, .any, .any, .any], [(6, ints s), (7, I s.length), (8, I j)], []⟩) (fun j => j ≤ s.length ∧ ∀ i, i < j → ¬ (s.getD i 0 < 1 ∨ 1024 < s.getD i 0)) (fun j => s.length - j) 0 ⟨by omega, by omega⟩
      (sub_mk rfl (by simp [subL, ints, sl1, I]) (by simp [subT, look, ints, sl1, I]) rfl) ?_
    rintro j ⟨hj, hno⟩ next
    have w1 := wj j (by omega)
    refine vc_soundN 1000 ?_
    simp only [w1, ↓wPre, wPost, List.getD_cons_succ, List.getD_cons_zero, List.set_cons_succ, List.set_cons_zero, List.map_cons, List.map_nil, List.all_cons, List.all_nil, List.length_cons, List.length_nil, List.cons_append, List.nil_append, List.append_nil, List.getElem?_cons_succ, List.getElem?_cons_zero, List.replicate_succ, List.replicate_zero, List.contains_cons, List.contains_nil, List.elem_cons, List.elem_nil, Nat.zero_add, Nat.add_zero, Nat.zero_lt_succ, Int.toNat_zero, Nat.min_self, Nat.zero_min, Nat.min_zero, Nat.sub_zero, Nat.zero_mul, Int.le_refl, Nat.le_refl, Option.getD_none, Option.getD_some, Int.toNat_one, Nat.lt_irrefl, Nat.mul_one, Bool.false_eq_true, Bool.true_eq_false, decide_true, decide_false, decide_eq_true_eq, decide_eq_false_iff_not, Bool.not_true, Bool.not_false, Bool.not_eq_true', Bool.not_eq_false', Bool.and_true, Bool.true_and, Bool.false_and, beq_self_eq_true, ite_true, ite_false, Option.map_some, Option.map_none, Option.isSome_some, true_and, and_true, false_and, and_false, not_true_eq_false, not_false_eq_true, false_implies, true_implies, implies_true, eq_self, ne_eq, or_true, true_or, or_false, false_or, Bool.or_false, Bool.or_true, Bool.false_or, Bool.true_or, Int.toNat_natCast, Int.natCast_nonneg, Int.ofNat_lt, Int.ofNat_le, Int.ofNat_inj, Int.ofNat_zero, ↓reduceIte, reduceIte, replT, filtT, countL, cls, look, aload, astore, aindex, afieldA, afield, aidx, apart, aslice, ibound, acap, azapp, abuildS, abuild, aFill, setL, zrep, asrc, aappend, aconv, alen, amake, amkmap, alookup, aupdate, aalloc, abox, newO, place, rd, Nat.reducePow, AV.isPtr, Nat.reduceLT, Nat.reduceLeDiff, Nat.reduceEqDiff, Nat.reduceAdd, Nat.reduceMul, Nat.reduceSub, Nat.reduceBEq, updL, cellsFrom, reduceCtorEq, ints, bools, intss, sl1, wFacts]
    refine ⟨fun h => ⟨h, h, call_fn (badc_fn _) rfl ?_⟩, fun h => ?_⟩
    · simp only [w1, ↓wPre, wPost, List.getD_cons_succ, List.getD_cons_zero, List.set_cons_succ, List.set_cons_zero, List.map_cons, List.map_nil, List.all_cons, List.all_nil, List.length_cons, List.length_nil, List.cons_append, List.nil_append, List.append_nil, List.getElem?_cons_succ, List.getElem?_cons_zero, List.replicate_succ, List.replicate_zero, List.contains_cons, List.contains_nil, List.elem_cons, List.elem_nil, Nat.zero_add, Nat.add_zero, Nat.zero_lt_succ, Int.toNat_zero, Nat.min_self, Nat.zero_min, Nat.min_zero, Nat.sub_zero, Nat.zero_mul, Int.le_refl, Nat.le_refl, Option.getD_none, Option.getD_some, Int.toNat_one, Nat.lt_irrefl, Nat.mul_one, Bool.false_eq_true, Bool.true_eq_false, decide_true, decide_false, decide_eq_true_eq, decide_eq_false_iff_not, Bool.not_true, Bool.not_false, Bool.not_eq_true', Bool.not_eq_false', Bool.and_true, Bool.true_and, Bool.false_and, beq_self_eq_true, ite_true, ite_false, Option.map_some, Option.map_none, Option.isSome_some, true_and, and_true, false_and, and_false, not_true_eq_false, not_false_eq_true, false_implies, true_implies, implies_true, eq_self, ne_eq, or_true, true_or, or_false, false_or, Bool.or_false, Bool.or_true, Bool.false_or, Bool.true_or, Int.toNat_natCast, Int.natCast_nonneg, Int.ofNat_lt, Int.ofNat_le, Int.ofNat_inj, Int.ofNat_zero, ↓reduceIte, reduceIte, replT, filtT, countL, cls, look, aload, astore, aindex, afieldA, afield, aidx, apart, aslice, ibound, acap, azapp, abuildS, abuild, aFill, setL, zrep, asrc, aappend, aconv, alen, amake, amkmap, alookup, aupdate, aalloc, abox, newO, place, rd, Nat.reducePow, AV.isPtr, Nat.reduceLT, Nat.reduceLeDiff, Nat.reduceEqDiff, Nat.reduceAdd, Nat.reduceMul, Nat.reduceSub, Nat.reduceBEq, updL, cellsFrom, reduceCtorEq, ints, bools, intss, sl1, wFacts]
      refine ⟨fun he => ?_, fun he => next (j + 1) _ ⟨by omega, fun i hi => ?_⟩ (by omega) (sub_mk rfl (by simp [subL, ints, sl1, I]) (by simp [subT, look, ints, sl1, I]) rfl)⟩
      · refine ret1 rfl (sees_of (settled_I _) ?_)
        rcases hr with ⟨j', ⟨h1, h2, h3⟩, rfl⟩ | ⟨h1, rfl⟩
        · have : j = j' := by
            rcases Nat.lt_trichotomy j j' with h | h | h
            · exact absurd he (h3 j h)
            · exact h
            · exact absurd h2 (hno j' h)
          subst this; rfl
        · exact absurd ⟨_, getD_mem h, he⟩ h1
      · by_cases e : i = j
        · subst e; exact he
        · exact hno i (by omega)
    · obtain rfl : j = s.length := by omega
      refine ret1 rfl (sees_of (settled_I _) ?_)
      rcases hr with ⟨j', ⟨h1, h2, h3⟩, rfl⟩ | ⟨h1, rfl⟩
      · exact absurd h2 (hno j' h1)
      · rfl
  by_cases hv : anyBad s
  · obtain ⟨v, hv1, hv2⟩ := id hv
    obtain ⟨j0, h0, h1⟩ := List.getElem_of_mem hv1
    have hex : ∃ j, j < s.length ∧ (s.getD j 0 < 1 ∨ 1024 < s.getD j 0) := ⟨j0, h0, by rw [List.getD_eq_getElem?_getD, List.getElem?_eq_getElem h0]; simpa [h1] using hv2⟩
    have least : ∀ n, (∃ j, j ≤ n ∧ j < s.length ∧ (s.getD j 0 < 1 ∨ 1024 < s.getD j 0)) → ∃ j, j < s.length ∧ (s.getD j 0 < 1 ∨ 1024 < s.getD j 0) ∧ ∀ i, i < j → ¬ (s.getD i 0 < 1 ∨ 1024 < s.getD i 0) := by
      intro n
      induction n with
      | zero => rintro ⟨j, h1, h2, h3⟩; exact ⟨j, h2, h3, fun i hi => by omega⟩
      | succ n ih =>
        rintro ⟨j, h1, h2, h3⟩
        by_cases hq : ∃ j, j ≤ n ∧ j < s.length ∧ (s.getD j 0 < 1 ∨ 1024 < s.getD j 0)
        · exact ih hq
        · exact ⟨j, h2, h3, fun i hi he => hq ⟨i, by omega, by omega, he⟩⟩
    obtain ⟨j, h1, h2, h3⟩ := least s.length (by obtain ⟨j, a, b⟩ := hex; exact ⟨j, by omega, a, b⟩)
    exact ⟨j, key _ (.inl ⟨j, ⟨h1, h2, h3⟩, rfl⟩), by simp [hv]⟩
  · exact ⟨-1, key _ (.inr ⟨hv, rfl⟩), by simp [hv]⟩
theorem containsf_fn (s : List Int) (hl : s.length < 1048576) : Fn Try.prog 44 [ints s, .fn 45 []] (.bool (decide (anyBad s))) := by
  obtain ⟨r, h1, h2⟩ := indexf_fn s hl
  refine Fn.intro (fn := Try.f44) Try.call44 Try.func44 rfl mixed 5 [] [] [] (by kernel_rfl) (Nat.le_of_ble_eq_true rfl) (by simp [settled_ints, settled_fn0]) (vc_soundN 1000 ?_)
  simp only [AS.start, ↓wPre, wPost, List.getD_cons_succ, List.getD_cons_zero, List.set_cons_succ, List.set_cons_zero, List.map_cons, List.map_nil, List.all_cons, List.all_nil, List.length_cons, List.length_nil, List.cons_append, List.nil_append, List.append_nil, List.getElem?_cons_succ, List.getElem?_cons_zero, List.replicate_succ, List.replicate_zero, List.contains_cons, List.contains_nil, List.elem_cons, List.elem_nil, Nat.zero_add, Nat.add_zero, Nat.zero_lt_succ, Int.toNat_zero, Nat.min_self, Nat.zero_min, Nat.min_zero, Nat.sub_zero, Nat.zero_mul, Int.le_refl, Nat.le_refl, Option.getD_none, Option.getD_some, Int.toNat_one, Nat.lt_irrefl, Nat.mul_one, Bool.false_eq_true, Bool.true_eq_false, decide_true, decide_false, decide_eq_true_eq, decide_eq_false_iff_not, Bool.not_true, Bool.not_false, Bool.not_eq_true', Bool.not_eq_false', Bool.and_true, Bool.true_and, Bool.false_and, beq_self_eq_true, ite_true, ite_false, Option.map_some, Option.map_none, Option.isSome_some, true_and, and_true, false_and, and_false, not_true_eq_false, not_false_eq_true, false_implies, true_implies, implies_true, eq_self, ne_eq, or_true, true_or, or_false, false_or, Bool.or_false, Bool.or_true, Bool.false_or, Bool.true_or, Int.toNat_natCast, Int.natCast_nonneg, Int.ofNat_lt, Int.ofNat_le, Int.ofNat_inj, Int.ofNat_zero, ↓reduceIte, reduceIte, replT, filtT, countL, cls, look, aload, astore, aindex, afieldA, afield, aidx, apart, aslice, ibound, acap, azapp, abuildS, abuild, aFill, setL, zrep, asrc, aappend, aconv, alen, amake, amkmap, alookup, aupdate, aalloc, abox, newO, place, rd, Nat.reducePow, AV.isPtr, Nat.reduceLT, Nat.reduceLeDiff, Nat.reduceEqDiff, Nat.reduceAdd, Nat.reduceMul, Nat.reduceSub, Nat.reduceBEq, updL, cellsFrom, reduceCtorEq, ints, bools, intss, sl1, wFacts]
  refine call_fn h1 rfl ?_
  simp only [↓wPre, wPost, List.getD_cons_succ, List.getD_cons_zero, List.set_cons_succ, List.set_cons_zero, List.map_cons, List.map_nil, List.all_cons, List.all_nil, List.length_cons, List.length_nil, List.cons_append, List.nil_append, List.append_nil, List.getElem?_cons_succ, List.getElem?_cons_zero, List.replicate_succ, List.replicate_zero, List.contains_cons, List.contains_nil, List.elem_cons, List.elem_nil, Nat.zero_add, Nat.add_zero, Nat.zero_lt_succ, Int.toNat_zero, Nat.min_self, Nat.zero_min, Nat.min_zero, Nat.sub_zero, Nat.zero_mul, Int.le_refl, Nat.le_refl, Option.getD_none, Option.getD_some, Int.toNat_one, Nat.lt_irrefl, Nat.mul_one, Bool.false_eq_true, Bool.true_eq_false, decide_true, decide_false, decide_eq_true_eq, decide_eq_false_iff_not, Bool.not_true, Bool.not_false, Bool.not_eq_true', Bool.not_eq_false', Bool.and_true, Bool.true_and, Bool.false_and, beq_self_eq_true, ite_true, ite_false, Option.map_some, Option.map_none, Option.isSome_some, true_and, and_true, false_and, and_false, not_true_eq_false, not_false_eq_true, false_implies, true_implies, implies_true, eq_self, ne_eq, or_true, true_or, or_false, false_or, Bool.or_false, Bool.or_true, Bool.false_or, Bool.true_or, Int.toNat_natCast, Int.natCast_nonneg, Int.ofNat_lt, Int.ofNat_le, Int.ofNat_inj, Int.ofNat_zero, ↓reduceIte, reduceIte, replT, filtT, countL, cls, look, aload, astore, aindex, afieldA, afield, aidx, apart, aslice, ibound, acap, azapp, abuildS, abuild, aFill, setL, zrep, asrc, aappend, aconv, alen, amake, amkmap, alookup, aupdate, aalloc, abox, newO, place, rd, Nat.reducePow, AV.isPtr, Nat.reduceLT, Nat.reduceLeDiff, Nat.reduceEqDiff, Nat.reduceAdd, Nat.reduceMul, Nat.reduceSub, Nat.reduceBEq, updL, cellsFrom, reduceCtorEq, ints, bools, intss, sl1, wFacts]
  exact ret1 rfl (sees_of (settled_bool _) (by simp [AS.get, h2]))
end
end Go.Ab.Q
