/- Contracts of functions of this chapter, for every argument that fits, and what they need. -/
import Derived.Test.YtfjcglohkajbhaaQ6
set_option linter.unusedSimpArgs false
set_option linter.unusedVariables false
namespace Go.Ab.Q
open Go Go.RowKit Go.Proofs
noncomputable section
set_option maxRecDepth 10000
set_option maxHeartbeats 1000000
set_option linter.unusedSimpArgs false
open Classical

theorem weak_slE {n n' m m' : Nat} {f f' : Nat → AV} {t : Bool} (hn : n = n') (hm : m' ≤ m) (hf : ∀ j, j < m' → f j = f' j) : Weak (.sl n m f t) (.sl n' m' f' false) := by subst hn; exact weak_sl hm hf
theorem getD_take {α : Type} (l : List α) (d : α) (i j : Nat) (h : i < j) : (l.take j).getD i d = l.getD i d := by
  simp [List.getD_eq_getElem?_getD, List.getElem?_take, h]

def sizeOk (W C : List Int) : Prop := W.length ≠ 0 ∧ W.length ≤ 8 ∧ C.length ≤ 8
def worldOk (W C : List Int) (j : Nat) : Prop := 0 ≤ W.getD j 0 ∧ W.getD j 0 < 2 ^ C.length ∧ W.getD j 0 ∉ W.take j
def worldsOk (W C : List Int) : Prop := ∀ j, j < W.length → worldOk W C j
def properF (W C : List Int) : Int := if sizeOk W C then (if worldsOk W C ∧ ¬ anyBad C then 0 else 1) else 4

theorem ishl1' (n : Nat) (h : n ≤ 61) : ishl .i64 1 (n : Int) = 2 ^ n := ishl1 n h
theorem anyBad_mem {C : List Int} (j : Nat) (h : j < C.length) (hb : C.getD j 0 < 1 ∨ 1024 < C.getD j 0) : anyBad C := ⟨_, getD_mem h, hb⟩
theorem not_anyBad {C : List Int} (h : ∀ i, i < C.length → ¬ (C.getD i 0 < 1 ∨ 1024 < C.getD i 0)) : ¬ anyBad C := by
  rintro ⟨c, hm, hb⟩
  obtain ⟨i, h1, rfl⟩ := List.getElem_of_mem hm
  exact h i h1 (by rwa [List.getD_eq_getElem?_getD, List.getElem?_eq_getElem h1])

theorem proper_fn (W C : List Int) (hW : W.length < 1048576) (hC : C.length < 1048576) : Fn Try.prog 29 [ints W, ints C] (I (properF W C)) := by
  refine Fn.intro (fn := Try.f29) Try.call29 Try.func29 rfl mixed 7 [20, 21, 22] [] [] (by kernel_rfl) (Nat.le_of_ble_eq_true rfl) (by simp [settled_ints, settled_I, settled_fn0, settled_intss, settled_bool, settled_tree, settled_nil]) (vc_soundN 1000 ?_); simp (config := { maxSteps := 2000000 }) only [AS.start, ↓wPre, wPost, List.getD_cons_succ, List.getD_cons_zero, List.set_cons_succ, List.set_cons_zero, List.map_cons, List.map_nil, List.all_cons, List.all_nil, List.length_cons, List.length_nil, List.cons_append, List.nil_append, List.append_nil, List.getElem?_cons_succ, List.getElem?_cons_zero, List.replicate_succ, List.replicate_zero, List.contains_cons, List.contains_nil, List.elem_cons, List.elem_nil, Nat.zero_add, Nat.add_zero, Nat.zero_lt_succ, Int.toNat_zero, Nat.min_self, Nat.zero_min, Nat.min_zero, Nat.sub_zero, Nat.zero_mul, Int.le_refl, Nat.le_refl, Option.getD_none, Option.getD_some, Int.toNat_one, Nat.lt_irrefl, Nat.mul_one, Bool.false_eq_true, Bool.true_eq_false, decide_true, decide_false, decide_eq_true_eq, decide_eq_false_iff_not, Bool.not_true, Bool.not_false, Bool.not_eq_true', Bool.not_eq_false', Bool.and_true, Bool.true_and, Bool.false_and, beq_self_eq_true, ite_true, ite_false, Option.map_some, Option.map_none, Option.isSome_some, true_and, and_true, false_and, and_false, not_true_eq_false, not_false_eq_true, false_implies, true_implies, implies_true, eq_self, ne_eq, or_true, true_or, or_false, false_or, Bool.or_false, Bool.or_true, Bool.false_or, Bool.true_or, Int.toNat_natCast, Int.natCast_nonneg, Int.ofNat_lt, Int.ofNat_le, Int.ofNat_inj, Int.ofNat_zero, ↓reduceIte, reduceIte, replT, filtT, countL, cls, look, aload, astore, aindex, afieldA, afield, aidx, apart, aslice, ibound, acap, azapp, abuildS, abuild, aFill, setL, zrep, asrc, aappend, aconv, alen, amake, amkmap, alookup, aupdate, aalloc, abox, newO, place, rd, Nat.reducePow, AV.isPtr, Nat.reduceLT, Nat.reduceLeDiff, Nat.reduceEqDiff, Nat.reduceAdd, Nat.reduceMul, Nat.reduceSub, Nat.reduceBEq, updL, cellsFrom, reduceCtorEq, ints, bools, intss, sl1, wFacts]
  have bad : ¬ sizeOk W C → properF W C = 4 := fun h => if_neg h
  refine ⟨fun h => ret1 rfl (sees_of (settled_I _) ?_), fun h1 => ⟨fun h => ret1 rfl (sees_of (settled_I _) ?_), fun h2 => ⟨fun h => ret1 rfl (sees_of (settled_I _) ?_), fun h3 => ?_⟩⟩⟩
  · rw [bad (by unfold sizeOk; omega)]; rfl
  · rw [bad (by unfold sizeOk; omega)]; rfl
  · rw [bad (by unfold sizeOk; omega)]; rfl
  have hs : sizeOk W C := by unfold sizeOk; omega
  have e0 : properF W C = if worldsOk W C ∧ ¬ anyBad C then 0 else 1 := if_pos hs
  refine run_loop (fun j : Nat => ⟨7, [20, 21, 22], [ints W, ints C, .any, .any, I 0, .any, .any], [(20, ints W), (21, I W.length), (22, I j)], []⟩) (fun j => j ≤ W.length ∧ ∀ i, i < j → worldOk W C i) (fun j => W.length - j) 0 ⟨by omega, by omega⟩
    (sub_mk rfl (by simp [subL, ints, sl1, I]) (by simp [subT, look, ints, sl1, I]) rfl) ?_
  rintro j ⟨hj, hinv⟩ next
  have w1 := wj j (by omega)
  have w2 := ishl1 C.length (by omega)
  refine vc_soundN 1000 ?_
  simp only [w1, w2, ↓wPre, wPost, List.getD_cons_succ, List.getD_cons_zero, List.set_cons_succ, List.set_cons_zero, List.map_cons, List.map_nil, List.all_cons, List.all_nil, List.length_cons, List.length_nil, List.cons_append, List.nil_append, List.append_nil, List.getElem?_cons_succ, List.getElem?_cons_zero, List.replicate_succ, List.replicate_zero, List.contains_cons, List.contains_nil, List.elem_cons, List.elem_nil, Nat.zero_add, Nat.add_zero, Nat.zero_lt_succ, Int.toNat_zero, Nat.min_self, Nat.zero_min, Nat.min_zero, Nat.sub_zero, Nat.zero_mul, Int.le_refl, Nat.le_refl, Option.getD_none, Option.getD_some, Int.toNat_one, Nat.lt_irrefl, Nat.mul_one, Bool.false_eq_true, Bool.true_eq_false, decide_true, decide_false, decide_eq_true_eq, decide_eq_false_iff_not, Bool.not_true, Bool.not_false, Bool.not_eq_true', Bool.not_eq_false', Bool.and_true, Bool.true_and, Bool.false_and, beq_self_eq_true, ite_true, ite_false, Option.map_some, Option.map_none, Option.isSome_some, true_and, and_true, false_and, and_false, not_true_eq_false, not_false_eq_true, false_implies, true_implies, implies_true, eq_self, ne_eq, or_true, true_or, or_false, false_or, Bool.or_false, Bool.or_true, Bool.false_or, Bool.true_or, Int.toNat_natCast, Int.natCast_nonneg, Int.ofNat_lt, Int.ofNat_le, Int.ofNat_inj, Int.ofNat_zero, ↓reduceIte, reduceIte, replT, filtT, countL, cls, look, aload, astore, aindex, afieldA, afield, aidx, apart, aslice, ibound, acap, azapp, abuildS, abuild, aFill, setL, zrep, asrc, aappend, aconv, alen, amake, amkmap, alookup, aupdate, aalloc, abox, newO, place, rd, Nat.reducePow, AV.isPtr, Nat.reduceLT, Nat.reduceLeDiff, Nat.reduceEqDiff, Nat.reduceAdd, Nat.reduceMul, Nat.reduceSub, Nat.reduceBEq, updL, cellsFrom, reduceCtorEq, ints, bools, intss, sl1, wFacts]
  refine ⟨fun h => ?_, fun h => ?_⟩
  · have notok : ¬ worldOk W C j → properF W C = 1 := fun hn => by rw [e0, if_neg (fun hh => hn (hh.1 j h))]
    refine ⟨h, h, fun hneg => ret1 rfl (sees_of (settled_I _) ?_), fun h0 => ⟨fun hbig => ret1 rfl (sees_of (settled_I _) ?_), fun h5 => ⟨by omega, ?_⟩⟩⟩
    · rw [notok (by unfold worldOk; omega)]; rfl
    · rw [notok (by unfold worldOk; omega)]; rfl
    refine call_weak (contains_fn (W.take j) (W.getD j 0) (by simp; omega)) ⟨weak_slE (by first | omega | (simp; done) | (simp; omega)) (by first | omega | (simp; done) | (simp; omega)) (fun i hi => ?_), Weak.rfl' _, trivial⟩ ?_
    · simp only [slF_at, Int.toNat_zero, Nat.zero_mul, Nat.zero_add, Int.toNat_natCast]
      rw [getD_take W 0 i j (by simp at hi; omega)]; rfl
    simp only [w1, ↓wPre, wPost, List.getD_cons_succ, List.getD_cons_zero, List.set_cons_succ, List.set_cons_zero, List.map_cons, List.map_nil, List.all_cons, List.all_nil, List.length_cons, List.length_nil, List.cons_append, List.nil_append, List.append_nil, List.getElem?_cons_succ, List.getElem?_cons_zero, List.replicate_succ, List.replicate_zero, List.contains_cons, List.contains_nil, List.elem_cons, List.elem_nil, Nat.zero_add, Nat.add_zero, Nat.zero_lt_succ, Int.toNat_zero, Nat.min_self, Nat.zero_min, Nat.min_zero, Nat.sub_zero, Nat.zero_mul, Int.le_refl, Nat.le_refl, Option.getD_none, Option.getD_some, Int.toNat_one, Nat.lt_irrefl, Nat.mul_one, Bool.false_eq_true, Bool.true_eq_false, decide_true, decide_false, decide_eq_true_eq, decide_eq_false_iff_not, Bool.not_true, Bool.not_false, Bool.not_eq_true', Bool.not_eq_false', Bool.and_true, Bool.true_and, Bool.false_and, beq_self_eq_true, ite_true, ite_false, Option.map_some, Option.map_none, Option.isSome_some, true_and, and_true, false_and, and_false, not_true_eq_false, not_false_eq_true, false_implies, true_implies, implies_true, eq_self, ne_eq, or_true, true_or, or_false, false_or, Bool.or_false, Bool.or_true, Bool.false_or, Bool.true_or, Int.toNat_natCast, Int.natCast_nonneg, Int.ofNat_lt, Int.ofNat_le, Int.ofNat_inj, Int.ofNat_zero, ↓reduceIte, reduceIte, replT, filtT, countL, cls, look, aload, astore, aindex, afieldA, afield, aidx, apart, aslice, ibound, acap, azapp, abuildS, abuild, aFill, setL, zrep, asrc, aappend, aconv, alen, amake, amkmap, alookup, aupdate, aalloc, abox, newO, place, rd, Nat.reducePow, AV.isPtr, Nat.reduceLT, Nat.reduceLeDiff, Nat.reduceEqDiff, Nat.reduceAdd, Nat.reduceMul, Nat.reduceSub, Nat.reduceBEq, updL, cellsFrom, reduceCtorEq, ints, bools, intss, sl1, wFacts]
    refine ⟨fun hm => ret1 rfl (sees_of (settled_I _) ?_), fun hm => next (j + 1) _ ⟨by omega, fun i hi => ?_⟩ (by omega) (sub_mk rfl (by simp [subL, ints, sl1, I]) (by simp [subT, look, ints, sl1, I]) rfl)⟩
    · rw [notok (fun hw => hw.2.2 hm)]; rfl
    · by_cases e : i = j
      · rw [e]; exact ⟨by omega, by omega, hm⟩
      · exact hinv i (by omega)
  · obtain rfl : j = W.length := by omega
    refine call_fn (containsf_fn C hC) rfl ?_
    simp only [↓wPre, wPost, List.getD_cons_succ, List.getD_cons_zero, List.set_cons_succ, List.set_cons_zero, List.map_cons, List.map_nil, List.all_cons, List.all_nil, List.length_cons, List.length_nil, List.cons_append, List.nil_append, List.append_nil, List.getElem?_cons_succ, List.getElem?_cons_zero, List.replicate_succ, List.replicate_zero, List.contains_cons, List.contains_nil, List.elem_cons, List.elem_nil, Nat.zero_add, Nat.add_zero, Nat.zero_lt_succ, Int.toNat_zero, Nat.min_self, Nat.zero_min, Nat.min_zero, Nat.sub_zero, Nat.zero_mul, Int.le_refl, Nat.le_refl, Option.getD_none, Option.getD_some, Int.toNat_one, Nat.lt_irrefl, Nat.mul_one, Bool.false_eq_true, Bool.true_eq_false, decide_true, decide_false, decide_eq_true_eq, decide_eq_false_iff_not, Bool.not_true, Bool.not_false, Bool.not_eq_true', Bool.not_eq_false', Bool.and_true, Bool.true_and, Bool.false_and, beq_self_eq_true, ite_true, ite_false, Option.map_some, Option.map_none, Option.isSome_some, true_and, and_true, false_and, and_false, not_true_eq_false, not_false_eq_true, false_implies, true_implies, implies_true, eq_self, ne_eq, or_true, true_or, or_false, false_or, Bool.or_false, Bool.or_true, Bool.false_or, Bool.true_or, Int.toNat_natCast, Int.natCast_nonneg, Int.ofNat_lt, Int.ofNat_le, Int.ofNat_inj, Int.ofNat_zero, ↓reduceIte, reduceIte, replT, filtT, countL, cls, look, aload, astore, aindex, afieldA, afield, aidx, apart, aslice, ibound, acap, azapp, abuildS, abuild, aFill, setL, zrep, asrc, aappend, aconv, alen, amake, amkmap, alookup, aupdate, aalloc, abox, newO, place, rd, Nat.reducePow, AV.isPtr, Nat.reduceLT, Nat.reduceLeDiff, Nat.reduceEqDiff, Nat.reduceAdd, Nat.reduceMul, Nat.reduceSub, Nat.reduceBEq, updL, cellsFrom, reduceCtorEq, ints, bools, intss, sl1, wFacts]
    refine ⟨fun hb => ret1 rfl (sees_of (settled_I _) ?_), fun hb => ret1 rfl (sees_of (settled_I _) ?_)⟩
    · rw [e0, if_neg (fun hh => hh.2 hb)]; rfl
    · rw [e0, if_pos ⟨hinv, hb⟩]; rfl

theorem rproper_fn (W C : List Int) (hW : W.length < 1048576) (hC : C.length < 1048576) : Fn Try.prog 30 [ints W, ints C] (I (properF W C)) := by
  refine Fn.intro (fn := Try.f30) Try.call30 Try.func30 rfl mixed 8 [] [] [] (by kernel_rfl) (Nat.le_of_ble_eq_true rfl) (by simp [settled_ints, settled_I, settled_fn0, settled_intss, settled_bool, settled_tree, settled_nil]) (vc_soundN 1000 ?_); simp (config := { maxSteps := 2000000 }) only [AS.start, ↓wPre, wPost, List.getD_cons_succ, List.getD_cons_zero, List.set_cons_succ, List.set_cons_zero, List.map_cons, List.map_nil, List.all_cons, List.all_nil, List.length_cons, List.length_nil, List.cons_append, List.nil_append, List.append_nil, List.getElem?_cons_succ, List.getElem?_cons_zero, List.replicate_succ, List.replicate_zero, List.contains_cons, List.contains_nil, List.elem_cons, List.elem_nil, Nat.zero_add, Nat.add_zero, Nat.zero_lt_succ, Int.toNat_zero, Nat.min_self, Nat.zero_min, Nat.min_zero, Nat.sub_zero, Nat.zero_mul, Int.le_refl, Nat.le_refl, Option.getD_none, Option.getD_some, Int.toNat_one, Nat.lt_irrefl, Nat.mul_one, Bool.false_eq_true, Bool.true_eq_false, decide_true, decide_false, decide_eq_true_eq, decide_eq_false_iff_not, Bool.not_true, Bool.not_false, Bool.not_eq_true', Bool.not_eq_false', Bool.and_true, Bool.true_and, Bool.false_and, beq_self_eq_true, ite_true, ite_false, Option.map_some, Option.map_none, Option.isSome_some, true_and, and_true, false_and, and_false, not_true_eq_false, not_false_eq_true, false_implies, true_implies, implies_true, eq_self, ne_eq, or_true, true_or, or_false, false_or, Bool.or_false, Bool.or_true, Bool.false_or, Bool.true_or, Int.toNat_natCast, Int.natCast_nonneg, Int.ofNat_lt, Int.ofNat_le, Int.ofNat_inj, Int.ofNat_zero, ↓reduceIte, reduceIte, replT, filtT, countL, cls, look, aload, astore, aindex, afieldA, afield, aidx, apart, aslice, ibound, acap, azapp, abuildS, abuild, aFill, setL, zrep, asrc, aappend, aconv, alen, amake, amkmap, alookup, aupdate, aalloc, abox, newO, place, rd, Nat.reducePow, AV.isPtr, Nat.reduceLT, Nat.reduceLeDiff, Nat.reduceEqDiff, Nat.reduceAdd, Nat.reduceMul, Nat.reduceSub, Nat.reduceBEq, updL, cellsFrom, reduceCtorEq, ints, bools, intss, sl1, wFacts]
  have bad : ¬ sizeOk W C → properF W C = 4 := fun h => if_neg h
  refine ⟨fun h => ret1 rfl (sees_of (settled_I _) ?_), fun h1 => ⟨fun h => ret1 rfl (sees_of (settled_I _) ?_), fun h2 => ⟨fun h => ret1 rfl (sees_of (settled_I _) ?_), fun h3 => ?_⟩⟩⟩
  · rw [bad (by unfold sizeOk; omega)]; rfl
  · rw [bad (by unfold sizeOk; omega)]; rfl
  · rw [bad (by unfold sizeOk; omega)]; rfl
  have hs : sizeOk W C := by unfold sizeOk; omega
  have e0 : properF W C = if worldsOk W C ∧ ¬ anyBad C then 0 else 1 := if_pos hs
  refine run_loop (fun j : Nat => ⟨8, [], [ints W, ints C, .any, .any, I 0, I j, .any, .any], [], []⟩) (fun j => j ≤ W.length ∧ ∀ i, i < j → worldOk W C i) (fun j => W.length - j) 0 ⟨by omega, by omega⟩
    (sub_mk rfl (by simp [subL, ints, intss, bools, sl1, I]) (by simp [subT]) rfl) ?_
  rintro j ⟨hj, hinv⟩ next
  have w1 := wj j (by omega)
  have w2 := ishl1 C.length (by omega)
  refine vc_soundN 1000 ?_
  simp only [w1, w2, ↓wPre, wPost, List.getD_cons_succ, List.getD_cons_zero, List.set_cons_succ, List.set_cons_zero, List.map_cons, List.map_nil, List.all_cons, List.all_nil, List.length_cons, List.length_nil, List.cons_append, List.nil_append, List.append_nil, List.getElem?_cons_succ, List.getElem?_cons_zero, List.replicate_succ, List.replicate_zero, List.contains_cons, List.contains_nil, List.elem_cons, List.elem_nil, Nat.zero_add, Nat.add_zero, Nat.zero_lt_succ, Int.toNat_zero, Nat.min_self, Nat.zero_min, Nat.min_zero, Nat.sub_zero, Nat.zero_mul, Int.le_refl, Nat.le_refl, Option.getD_none, Option.getD_some, Int.toNat_one, Nat.lt_irrefl, Nat.mul_one, Bool.false_eq_true, Bool.true_eq_false, decide_true, decide_false, decide_eq_true_eq, decide_eq_false_iff_not, Bool.not_true, Bool.not_false, Bool.not_eq_true', Bool.not_eq_false', Bool.and_true, Bool.true_and, Bool.false_and, beq_self_eq_true, ite_true, ite_false, Option.map_some, Option.map_none, Option.isSome_some, true_and, and_true, false_and, and_false, not_true_eq_false, not_false_eq_true, false_implies, true_implies, implies_true, eq_self, ne_eq, or_true, true_or, or_false, false_or, Bool.or_false, Bool.or_true, Bool.false_or, Bool.true_or, Int.toNat_natCast, Int.natCast_nonneg, Int.ofNat_lt, Int.ofNat_le, Int.ofNat_inj, Int.ofNat_zero, ↓reduceIte, reduceIte, replT, filtT, countL, cls, look, aload, astore, aindex, afieldA, afield, aidx, apart, aslice, ibound, acap, azapp, abuildS, abuild, aFill, setL, zrep, asrc, aappend, aconv, alen, amake, amkmap, alookup, aupdate, aalloc, abox, newO, place, rd, Nat.reducePow, AV.isPtr, Nat.reduceLT, Nat.reduceLeDiff, Nat.reduceEqDiff, Nat.reduceAdd, Nat.reduceMul, Nat.reduceSub, Nat.reduceBEq, updL, cellsFrom, reduceCtorEq, ints, bools, intss, sl1, wFacts]
  refine ⟨fun h => ?_, fun h => ?_⟩
  · have notok : ¬ worldOk W C j → properF W C = 1 := fun hn => by rw [e0, if_neg (fun hh => hn (hh.1 j h))]
    refine ⟨h, h, fun hneg => ret1 rfl (sees_of (settled_I _) ?_), fun h0 => ⟨h, h, fun hbig => ret1 rfl (sees_of (settled_I _) ?_), fun h5 => ?_⟩⟩
    · rw [notok (by unfold worldOk; omega)]; rfl
    · rw [notok (by unfold worldOk; omega)]; rfl
    refine run_loop (fun i : Nat => ⟨8, [], [ints W, ints C, .any, .any, I 0, I j, I i, .any], [], []⟩) (fun i => i ≤ j ∧ ∀ q, q < i → W.getD q 0 ≠ W.getD j 0) (fun i => j - i) 0 ⟨by omega, by omega⟩
      (sub_mk rfl (by simp [subL, ints, intss, bools, sl1, I]) (by simp [subT]) rfl) ?_
    rintro i ⟨hi, hne⟩ nexti
    have w3 := wj i (by omega)
    refine vc_soundN 1000 ?_
    simp only [w1, w3, ↓wPre, wPost, List.getD_cons_succ, List.getD_cons_zero, List.set_cons_succ, List.set_cons_zero, List.map_cons, List.map_nil, List.all_cons, List.all_nil, List.length_cons, List.length_nil, List.cons_append, List.nil_append, List.append_nil, List.getElem?_cons_succ, List.getElem?_cons_zero, List.replicate_succ, List.replicate_zero, List.contains_cons, List.contains_nil, List.elem_cons, List.elem_nil, Nat.zero_add, Nat.add_zero, Nat.zero_lt_succ, Int.toNat_zero, Nat.min_self, Nat.zero_min, Nat.min_zero, Nat.sub_zero, Nat.zero_mul, Int.le_refl, Nat.le_refl, Option.getD_none, Option.getD_some, Int.toNat_one, Nat.lt_irrefl, Nat.mul_one, Bool.false_eq_true, Bool.true_eq_false, decide_true, decide_false, decide_eq_true_eq, decide_eq_false_iff_not, Bool.not_true, Bool.not_false, Bool.not_eq_true', Bool.not_eq_false', Bool.and_true, Bool.true_and, Bool.false_and, beq_self_eq_true, ite_true, ite_false, Option.map_some, Option.map_none, Option.isSome_some, true_and, and_true, false_and, and_false, not_true_eq_false, not_false_eq_true, false_implies, true_implies, implies_true, eq_self, ne_eq, or_true, true_or, or_false, false_or, Bool.or_false, Bool.or_true, Bool.false_or, Bool.true_or, Int.toNat_natCast, Int.natCast_nonneg, Int.ofNat_lt, Int.ofNat_le, Int.ofNat_inj, Int.ofNat_zero, ↓reduceIte, reduceIte, replT, filtT, countL, cls, look, aload, astore, aindex, afieldA, afield, aidx, apart, aslice, ibound, acap, azapp, abuildS, abuild, aFill, setL, zrep, asrc, aappend, aconv, alen, amake, amkmap, alookup, aupdate, aalloc, abox, newO, place, rd, Nat.reducePow, AV.isPtr, Nat.reduceLT, Nat.reduceLeDiff, Nat.reduceEqDiff, Nat.reduceAdd, Nat.reduceMul, Nat.reduceSub, Nat.reduceBEq, updL, cellsFrom, reduceCtorEq, ints, bools, intss, sl1, wFacts]
    refine ⟨fun hij => ⟨by omega, by omega, h, h, fun he => ret1 rfl (sees_of (settled_I _) ?_), fun he => nexti (i + 1) _ ⟨by omega, fun q hq => ?_⟩ (by omega) (sub_mk rfl (by simp [subL, ints, intss, bools, sl1, I]) (by simp [subT]) rfl)⟩, fun hij => next (j + 1) _ ⟨by omega, fun q hq => ?_⟩ (by omega) (sub_mk rfl (by simp [subL, ints, intss, bools, sl1, I]) (by simp [subT]) rfl)⟩
    · rw [notok (fun hw => hw.2.2 (by rw [← he, ← getD_take W 0 i j hij]; exact getD_mem (by simp; omega)))]; rfl
    · by_cases e : q = i
      · rw [e]; exact he
      · exact hne q (by omega)
    · by_cases e : q = j
      · rw [e]
        refine ⟨by omega, by omega, fun hm => ?_⟩
        obtain ⟨p, hp1, hp2⟩ := List.getElem_of_mem hm
        refine hne p (by simp at hp1; omega) ?_
        rw [← hp2, List.getD_eq_getElem?_getD]
        simp at hp1
        simp [show p < W.length by omega]
      · exact hinv q (by omega)
  · obtain rfl : j = W.length := by omega
    refine run_loop (fun i : Nat => ⟨8, [], [ints W, ints C, .any, .any, I 0, .any, .any, I i], [], []⟩) (fun i => i ≤ C.length ∧ ∀ q, q < i → ¬ (C.getD q 0 < 1 ∨ 1024 < C.getD q 0)) (fun i => C.length - i) 0 ⟨by omega, by omega⟩
      (sub_mk rfl (by simp [subL, ints, intss, bools, sl1, I]) (by simp [subT]) rfl) ?_
    rintro i ⟨hi, hne⟩ nexti
    have w3 := wj i (by omega)
    refine vc_soundN 1000 ?_
    simp only [w1, w3, ↓wPre, wPost, List.getD_cons_succ, List.getD_cons_zero, List.set_cons_succ, List.set_cons_zero, List.map_cons, List.map_nil, List.all_cons, List.all_nil, List.length_cons, List.length_nil, List.cons_append, List.nil_append, List.append_nil, List.getElem?_cons_succ, List.getElem?_cons_zero, List.replicate_succ, List.replicate_zero, List.contains_cons, List.contains_nil, List.elem_cons, List.elem_nil, Nat.zero_add, Nat.add_zero, Nat.zero_lt_succ, Int.toNat_zero, Nat.min_self, Nat.zero_min, Nat.min_zero, Nat.sub_zero, Nat.zero_mul, Int.le_refl, Nat.le_refl, Option.getD_none, Option.getD_some, Int.toNat_one, Nat.lt_irrefl, Nat.mul_one, Bool.false_eq_true, Bool.true_eq_false, decide_true, decide_false, decide_eq_true_eq, decide_eq_false_iff_not, Bool.not_true, Bool.not_false, Bool.not_eq_true', Bool.not_eq_false', Bool.and_true, Bool.true_and, Bool.false_and, beq_self_eq_true, ite_true, ite_false, Option.map_some, Option.map_none, Option.isSome_some, true_and, and_true, false_and, and_false, not_true_eq_false, not_false_eq_true, false_implies, true_implies, implies_true, eq_self, ne_eq, or_true, true_or, or_false, false_or, Bool.or_false, Bool.or_true, Bool.false_or, Bool.true_or, Int.toNat_natCast, Int.natCast_nonneg, Int.ofNat_lt, Int.ofNat_le, Int.ofNat_inj, Int.ofNat_zero, ↓reduceIte, reduceIte, replT, filtT, countL, cls, look, aload, astore, aindex, afieldA, afield, aidx, apart, aslice, ibound, acap, azapp, abuildS, abuild, aFill, setL, zrep, asrc, aappend, aconv, alen, amake, amkmap, alookup, aupdate, aalloc, abox, newO, place, rd, Nat.reducePow, AV.isPtr, Nat.reduceLT, Nat.reduceLeDiff, Nat.reduceEqDiff, Nat.reduceAdd, Nat.reduceMul, Nat.reduceSub, Nat.reduceBEq, updL, cellsFrom, reduceCtorEq, ints, bools, intss, sl1, wFacts]
    refine ⟨fun hij => ⟨by omega, by omega, fun he => ret1 rfl (sees_of (settled_I _) ?_), fun h0 => ⟨by omega, by omega, fun he => ret1 rfl (sees_of (settled_I _) ?_), fun he => nexti (i + 1) _ ⟨by omega, fun q hq => ?_⟩ (by omega) (sub_mk rfl (by simp [subL, ints, intss, bools, sl1, I]) (by simp [subT]) rfl)⟩⟩, fun hij => ret1 rfl (sees_of (settled_I _) ?_)⟩
    · rw [e0, if_neg (fun hh => hh.2 (anyBad_mem i (by omega) (.inl he)))]; rfl
    · rw [e0, if_neg (fun hh => hh.2 (anyBad_mem i (by omega) (.inr he)))]; rfl
    · by_cases e : q = i
      · rw [e]; omega
      · exact hne q (by omega)
    · obtain rfl : i = C.length := by omega
      rw [e0, if_pos ⟨hinv, not_anyBad hne⟩]; rfl
end
end Go.Ab.Q
