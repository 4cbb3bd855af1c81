/- Contracts of functions of this chapter, for every argument that fits, and what they need. -/
import Derived.Test.YtfjcglohkajbhaaQ24
set_option linter.unusedSimpArgs false
set_option linter.unusedVariables false
namespace Go.Ab.Q
open Go Go.RowKit Go.Proofs
noncomputable section
set_option maxRecDepth 10000
set_option maxHeartbeats 1000000
set_option linter.unusedSimpArgs false
open Classical

def otherW (c b : Int) (W : List Int) : List Int := if c = 0 then W.set 0 b else if c = 2 then W ++ [W.getD 0 0] else if c = 4 then [] else if c = 6 then [0, 1, 2, 3, 4, 5, 6, 7, 0] else W
def otherC (c b : Int) (C : List Int) : List Int := if c = 1 then C.set 0 b else if c = 3 then C.take (C.length - 1) else if c = 5 then List.replicate 9 0 else C
theorem otherW_len (c b : Int) (W : List Int) (h : W.length ≤ 6) : (otherW c b W).length ≤ 9 := by
  unfold otherW
  repeat' split
  all_goals first | (simp; omega) | (simp; done) | omega
theorem otherC_len (c b : Int) (C : List Int) (h : C.length ≤ 6) : (otherC c b C).length ≤ 9 := by
  unfold otherC
  repeat' split
  all_goals first | (simp; omega) | (simp; done) | omega
theorem sees_two {H : List AO} {a b : AV} {x y : List Int} {t : Bool} (h1 : Sees H a (ints x)) (h2 : Sees H b (ints y)) : Sees H (.sl 2 2 (ofL [a, b]) t) (intss [x, y]) := by
  refine sees_sl (t := t) fun j hj => ?_
  rcases (show j = 0 ∨ j = 1 by omega) with rfl | rfl
  · exact h1
  · exact h2
theorem any2_fn (l : List Int) (how b : Int) (hl : all64 l) (hh : in64 how) : ∃ (n q : Nat), 0 < n ∧ n ≤ 6 ∧ 3 ≤ q ∧ q ≤ 5 ∧
    Fn Try.prog 9 [ints l, I how, I b] (.tup [intss [wsF l (2 ^ q) n, otherW (aroundF how 7) b (wsF l (2 ^ q) n)], intss [csF l q, otherC (aroundF how 7) b (csF l q)]]) := by
  obtain ⟨n, q, h1, h2, h3, h4, hfn⟩ := worlds_fn l hl
  refine ⟨n, q, h1, h2, h3, h4, ?_⟩
  have hWl := wsF_len l (2 ^ q) n
  have hCl := csF_len l q
  generalize wsF l (2 ^ q) n = W at *
  generalize csF l q = C at *
  have ba := aroundF_bound how 7 (by omega)
  have hfa := around_fn how 7 hh (by omega)
  generalize aroundF how 7 = c at *
  refine Fn.intro (fn := Try.f9) Try.call9 Try.func9 rfl mixed 12 [24] [] [] (by kernel_rfl) (Nat.le_of_ble_eq_true rfl) (by simp [settled_ints, settled_I, settled_fn0, settled_intss, settled_bool, settled_tree, settled_nil]) (vc_soundN 1000 ?_); simp (config := { maxSteps := 2000000 }) only [AS.start, ↓wPre, wPost, List.getD_cons_succ, List.getD_cons_zero, List.set_cons_succ, List.set_cons_zero, List.map_cons, List.map_nil, List.all_cons, List.all_nil, List.length_cons, List.length_nil, List.cons_append, List.nil_append, List.append_nil, List.getElem?_cons_succ, List.getElem?_cons_zero, List.replicate_succ, List.replicate_zero, List.contains_cons, List.contains_nil, List.elem_cons, List.elem_nil, Nat.zero_add, Nat.add_zero, Nat.zero_lt_succ, Int.toNat_zero, Nat.min_self, Nat.zero_min, Nat.min_zero, Nat.sub_zero, Nat.zero_mul, Int.le_refl, Nat.le_refl, Option.getD_none, Option.getD_some, Int.toNat_one, Nat.lt_irrefl, Nat.mul_one, Bool.false_eq_true, Bool.true_eq_false, decide_true, decide_false, decide_eq_true_eq, decide_eq_false_iff_not, Bool.not_true, Bool.not_false, Bool.not_eq_true', Bool.not_eq_false', Bool.and_true, Bool.true_and, Bool.false_and, beq_self_eq_true, ite_true, ite_false, Option.map_some, Option.map_none, Option.isSome_some, true_and, and_true, false_and, and_false, not_true_eq_false, not_false_eq_true, false_implies, true_implies, implies_true, eq_self, ne_eq, or_true, true_or, or_false, false_or, Bool.or_false, Bool.or_true, Bool.false_or, Bool.true_or, Int.toNat_natCast, Int.natCast_nonneg, Int.ofNat_lt, Int.ofNat_le, Int.ofNat_inj, Int.ofNat_zero, ↓reduceIte, reduceIte, replT, filtT, countL, cls, look, aload, astore, aindex, afieldA, afield, aidx, apart, aslice, ibound, acap, azapp, abuildS, abuild, aFill, setL, zrep, asrc, aappend, aconv, alen, amake, amkmap, alookup, aupdate, aalloc, abox, newO, place, rd, Nat.reducePow, AV.isPtr, Nat.reduceLT, Nat.reduceLeDiff, Nat.reduceEqDiff, Nat.reduceAdd, Nat.reduceMul, Nat.reduceSub, Nat.reduceBEq, updL, cellsFrom, reduceCtorEq, ints, bools, intss, sl1, wFacts]
  refine call_fn hfn rfl ?_
  simp only [↓wPre, wPost, List.getD_cons_succ, List.getD_cons_zero, List.set_cons_succ, List.set_cons_zero, List.map_cons, List.map_nil, List.all_cons, List.all_nil, List.length_cons, List.length_nil, List.cons_append, List.nil_append, List.append_nil, List.getElem?_cons_succ, List.getElem?_cons_zero, List.replicate_succ, List.replicate_zero, List.contains_cons, List.contains_nil, List.elem_cons, List.elem_nil, Nat.zero_add, Nat.add_zero, Nat.zero_lt_succ, Int.toNat_zero, Nat.min_self, Nat.zero_min, Nat.min_zero, Nat.sub_zero, Nat.zero_mul, Int.le_refl, Nat.le_refl, Option.getD_none, Option.getD_some, Int.toNat_one, Nat.lt_irrefl, Nat.mul_one, Bool.false_eq_true, Bool.true_eq_false, decide_true, decide_false, decide_eq_true_eq, decide_eq_false_iff_not, Bool.not_true, Bool.not_false, Bool.not_eq_true', Bool.not_eq_false', Bool.and_true, Bool.true_and, Bool.false_and, beq_self_eq_true, ite_true, ite_false, Option.map_some, Option.map_none, Option.isSome_some, true_and, and_true, false_and, and_false, not_true_eq_false, not_false_eq_true, false_implies, true_implies, implies_true, eq_self, ne_eq, or_true, true_or, or_false, false_or, Bool.or_false, Bool.or_true, Bool.false_or, Bool.true_or, Int.toNat_natCast, Int.natCast_nonneg, Int.ofNat_lt, Int.ofNat_le, Int.ofNat_inj, Int.ofNat_zero, ↓reduceIte, reduceIte, replT, filtT, countL, cls, look, aload, astore, aindex, afieldA, afield, aidx, apart, aslice, ibound, acap, azapp, abuildS, abuild, aFill, setL, zrep, asrc, aappend, aconv, alen, amake, amkmap, alookup, aupdate, aalloc, abox, newO, place, rd, Nat.reducePow, AV.isPtr, Nat.reduceLT, Nat.reduceLeDiff, Nat.reduceEqDiff, Nat.reduceAdd, Nat.reduceMul, Nat.reduceSub, Nat.reduceBEq, updL, cellsFrom, reduceCtorEq, ints, bools, intss, sl1, wFacts]
  refine ⟨by omega, ?_⟩
  refine ⟨by omega, call_fn hfa rfl ?_⟩
  have eW : ∀ j, j < W.length → appF 0 (ofL []) W.length (slF I 0 W) j = I (W.getD j 0) := fun j hj => by
    unfold appF
    rw [if_neg (by omega), if_pos (by omega)]; rfl
  have eC : ∀ j, j < C.length → appF 0 (ofL []) C.length (slF I 0 C) j = I (C.getD j 0) := fun j hj => by
    unfold appF
    rw [if_neg (by omega), if_pos (by omega)]; rfl
  have eW0 := eW 0 (by omega)
  have wC : IntKind.i64.wrap ((C.length : Int) - 1) = ((C.length - 1 : Nat) : Int) := by rw [IntKind.wrap_i64]; omega
  simp only [eW0, wC, Int.sub_zero, ↓wPre, wPost, List.getD_cons_succ, List.getD_cons_zero, List.set_cons_succ, List.set_cons_zero, List.map_cons, List.map_nil, List.all_cons, List.all_nil, List.length_cons, List.length_nil, List.cons_append, List.nil_append, List.append_nil, List.getElem?_cons_succ, List.getElem?_cons_zero, List.replicate_succ, List.replicate_zero, List.contains_cons, List.contains_nil, List.elem_cons, List.elem_nil, Nat.zero_add, Nat.add_zero, Nat.zero_lt_succ, Int.toNat_zero, Nat.min_self, Nat.zero_min, Nat.min_zero, Nat.sub_zero, Nat.zero_mul, Int.le_refl, Nat.le_refl, Option.getD_none, Option.getD_some, Int.toNat_one, Nat.lt_irrefl, Nat.mul_one, Bool.false_eq_true, Bool.true_eq_false, decide_true, decide_false, decide_eq_true_eq, decide_eq_false_iff_not, Bool.not_true, Bool.not_false, Bool.not_eq_true', Bool.not_eq_false', Bool.and_true, Bool.true_and, Bool.false_and, beq_self_eq_true, ite_true, ite_false, Option.map_some, Option.map_none, Option.isSome_some, true_and, and_true, false_and, and_false, not_true_eq_false, not_false_eq_true, false_implies, true_implies, implies_true, eq_self, ne_eq, or_true, true_or, or_false, false_or, Bool.or_false, Bool.or_true, Bool.false_or, Bool.true_or, Int.toNat_natCast, Int.natCast_nonneg, Int.ofNat_lt, Int.ofNat_le, Int.ofNat_inj, Int.ofNat_zero, ↓reduceIte, reduceIte, replT, filtT, countL, cls, look, aload, astore, aindex, afieldA, afield, aidx, apart, aslice, ibound, acap, azapp, abuildS, abuild, aFill, setL, zrep, asrc, aappend, aconv, alen, amake, amkmap, alookup, aupdate, aalloc, abox, newO, place, rd, Nat.reducePow, AV.isPtr, Nat.reduceLT, Nat.reduceLeDiff, Nat.reduceEqDiff, Nat.reduceAdd, Nat.reduceMul, Nat.reduceSub, Nat.reduceBEq, updL, cellsFrom, reduceCtorEq, ints, bools, intss, sl1, wFacts]
  have ret : ∀ {x y : AV} {W' C' : List Int} {st : AS}, otherW c b W = W' → otherC c b C = C' → st.get 6 = .sl 2 2 (ofL [ints W, x]) true → st.get 7 = .sl 2 2 (ofL [ints C, y]) true → Sees st.h x (ints W') → Sees st.h y (ints C') →
      RetOk (envP Try.prog Try.f9 [] [] (.tup [intss [W, otherW c b W], intss [C, otherC c b C]])) st := by
    rintro x y W' C' st rfl rfl g1 g2 g3 g4
    refine ret2 rfl (sees_tup ⟨?_, ?_, trivial⟩)
    · rw [g1]; exact sees_two ((settled_ints W).sees _) g3
    · rw [g2]; exact sees_two ((settled_ints C).sees _) g4
  have sW : ∀ {H : List AO} {v : Nat}, H[0]? = some (.row v W.length (appF 0 (ofL []) W.length (slF I 0 W))) → Sees H (.osl 0 v 1 0 W.length) (ints W) := fun ho => sees_intsF rfl ho rfl (Nat.le_refl _) eW
  have sC : ∀ {H : List AO} {v : Nat}, H[1]? = some (.row v C.length (appF 0 (ofL []) C.length (slF I 0 C))) → Sees H (.osl 1 v 1 0 C.length) (ints C) := fun ho => sees_intsF rfl ho rfl (Nat.le_refl _) eC
  have set0 : ∀ (L : List Int) (f : Nat → AV), (∀ j, j < L.length → f j = I (L.getD j 0)) → ∀ j, j < (L.set 0 b).length → upd f 0 (.int .i64 b) j = I ((L.set 0 b).getD j 0) := fun L f hf j hj => by
    unfold upd
    simp only [List.length_set] at hj
    by_cases h : j = 0
    · subst h; simp [List.getD_eq_getElem?_getD, I, hj]
    · rw [if_neg h, hf j hj]; simp [List.getD_eq_getElem?_getD, List.getElem?_set_ne (Ne.symm h)]
  refine ⟨fun h => ⟨by omega, by omega, ?_⟩, fun n0 => ⟨fun h => ⟨by omega, by omega, ?_⟩, fun n1 => ⟨fun h => ⟨by omega, by omega, by omega, ?_⟩, fun n2 => ⟨fun h => ⟨by omega, ?_⟩, fun n3 => ⟨fun h => ?_, fun n4 => ⟨fun h => ?_, fun n5 => ⟨fun h => ?_, fun n6 => by omega⟩⟩⟩⟩⟩⟩⟩
  · exact ret (W' := W.set 0 b) (C' := C) (by simp [otherW, h]) (by simp [otherC, h]) rfl rfl (sees_intsF rfl rfl (by simp) (by simp) (set0 W _ eW)) (sC rfl)
  · exact ret (W' := W) (C' := C.set 0 b) (by simp [otherW, h]) (by simp [otherC, h]) rfl rfl (sW rfl) (sees_intsF rfl rfl (by simp) (by simp) (set0 C _ eC))
  · refine ret (W' := W ++ [W.getD 0 0]) (C' := C) (by simp [otherW, h]) (by simp [otherC, h]) rfl rfl (sees_intsF rfl rfl (by simp) (by simp) (fun j hj => ?_)) (sC rfl)
    simp at hj
    unfold appF at eW ⊢
    by_cases hjl : j < W.length
    · rw [if_pos hjl, eW j hjl]; simp [List.getD_eq_getElem?_getD, List.getElem?_append_left hjl]
    · obtain rfl : j = W.length := by omega
      rw [if_neg (by omega), if_pos (by omega)]
      simp [ofL, I]
  · refine ret (W' := W) (C' := C.take (C.length - 1)) (by simp [otherW, h]) (by simp [otherC, h]) rfl rfl (sW rfl) (sees_intsF rfl rfl (by simp) (by simp) (fun j hj => ?_))
    simp at hj
    rw [eC j (by omega), getD_take C 0 j (C.length - 1) (by omega)]
  · exact ret (W' := []) (C' := C) (by simp [otherW, h]) (by simp [otherC, h]) rfl rfl sees_empty (sC rfl)
  · refine ⟨by decide, @ret (.osl 0 0 1 0 W.length) (.osl 2 0 1 0 9) W (List.replicate 9 0) _ ?_ ?_ ?_ ?_ ?_ ?_⟩
    · simp [otherW, h]
    · simp [otherC, h]
    · rfl
    · rfl
    · exact sW rfl
    · refine sees_intsF (id := 2) (ver := 0) (n := 9) (m := 9) (g := fun _ => .int .i64 0) rfl rfl (by simp) (by simp) (fun j hj => ?_)
      simp at hj
      rw [List.getD_eq_getElem?_getD, List.getElem?_replicate, if_pos hj]; rfl
  · refine ret (W' := [0, 1, 2, 3, 4, 5, 6, 7, 0]) (C' := C) (by simp [otherW, h]) (by simp [otherC, h]) rfl rfl (sees_of_weak (settled_ints _) (weak_slW rfl (Nat.le_refl _) fun j hj => ?_)) (sC rfl)
    rcases (show j = 0 ∨ j = 1 ∨ j = 2 ∨ j = 3 ∨ j = 4 ∨ j = 5 ∨ j = 6 ∨ j = 7 ∨ j = 8 by simp at hj; omega) with rfl | rfl | rfl | rfl | rfl | rfl | rfl | rfl | rfl <;> exact Weak.rfl' _
end
end Go.Ab.Q
