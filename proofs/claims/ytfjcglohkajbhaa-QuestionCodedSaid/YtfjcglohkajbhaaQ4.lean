/- Contracts of functions of this chapter, for every argument that fits, and what they need. -/
import Derived.Test.YtfjcglohkajbhaaQ3
set_option linter.unusedSimpArgs false
set_option linter.unusedVariables false
namespace Go.Ab.Q
open Go Go.RowKit Go.Proofs
noncomputable section
set_option maxRecDepth 10000
set_option maxHeartbeats 1000000
set_option linter.unusedSimpArgs false

theorem pow_le (n m : Nat) (h : n ≤ m) : (2:Int) ^ n ≤ 2 ^ m := by
  have := Nat.pow_le_pow_right (n := 2) (by omega) h
  have e : ∀ k : Nat, (2:Int) ^ k = ((2 ^ k : Nat) : Int) := fun k => by simp
  rw [e, e]; omega
theorem pow_pos (n : Nat) : (0:Int) < 2 ^ n := by
  have := pow_le 0 n (by omega)
  simp at this; omega
theorem ishl1 (n : Nat) (h : n ≤ 61) : ishl .i64 1 (n : Int) = 2 ^ n := by
  have h1 := pow_le n 61 h
  have h2 := pow_pos n
  unfold ishl
  rw [show min (n : Int).toNat (IntKind.i64).bits = n by simp [IntKind.bits]; omega, IntKind.wrap_i64]
  have : (2:Int) ^ 61 = 2305843009213693952 := by decide
  omega

def mem8 (n : Int) : List Int := (allI 8).filter fun i => tb n i
def mem8n (n : Int) (j : Nat) : List Int := (allI j).filter fun i => tb n i
theorem mem8_succ (n : Int) (j : Nat) : mem8n n (j + 1) = mem8n n j ++ (if tb n j = true then [(j : Int)] else []) := by
  unfold mem8n
  rw [allI_succ]
  simp only [List.filter_append, List.filter_cons, List.filter_nil]
theorem mem8_len (n : Int) (j : Nat) : (mem8n n j).length ≤ j := Nat.le_trans (List.length_filter_le _ _) (by simp [allI_len])

theorem members_fn (n : Int) : Fn Try.prog 46 [I n] (ints (mem8 n)) := by
  refine Fn.intro (fn := Try.f46) Try.call46 Try.func46 rfl mixed 5 [] [] [] (by kernel_rfl) (Nat.le_of_ble_eq_true rfl) (by simp [settled_I]) (vc_soundN 1000 ?_)
  simp only [AS.start, ↓wPre, wPost, List.getD_cons_succ, List.getD_cons_zero, List.set_cons_succ, List.set_cons_zero, List.map_cons, List.map_nil, List.all_cons, List.all_nil, List.length_cons, List.length_nil, List.cons_append, List.nil_append, List.append_nil, List.getElem?_cons_succ, List.getElem?_cons_zero, List.replicate_succ, List.replicate_zero, List.contains_cons, List.contains_nil, List.elem_cons, List.elem_nil, Nat.zero_add, Nat.add_zero, Nat.zero_lt_succ, Int.toNat_zero, Nat.min_self, Nat.zero_min, Nat.min_zero, Nat.sub_zero, Nat.zero_mul, Int.le_refl, Nat.le_refl, Option.getD_none, Option.getD_some, Int.toNat_one, Nat.lt_irrefl, Nat.mul_one, Bool.false_eq_true, Bool.true_eq_false, decide_true, decide_false, decide_eq_true_eq, decide_eq_false_iff_not, Bool.not_true, Bool.not_false, Bool.not_eq_true', Bool.not_eq_false', Bool.and_true, Bool.true_and, Bool.false_and, beq_self_eq_true, ite_true, ite_false, Option.map_some, Option.map_none, Option.isSome_some, true_and, and_true, false_and, and_false, not_true_eq_false, not_false_eq_true, false_implies, true_implies, implies_true, eq_self, ne_eq, or_true, true_or, or_false, false_or, Bool.or_false, Bool.or_true, Bool.false_or, Bool.true_or, Int.toNat_natCast, Int.natCast_nonneg, Int.ofNat_lt, Int.ofNat_le, Int.ofNat_inj, Int.ofNat_zero, ↓reduceIte, reduceIte, replT, filtT, countL, cls, look, aload, astore, aindex, afieldA, afield, aidx, apart, aslice, ibound, acap, azapp, abuildS, abuild, aFill, setL, zrep, asrc, aappend, aconv, alen, amake, amkmap, alookup, aupdate, aalloc, abox, newO, place, rd, Nat.reducePow, AV.isPtr, Nat.reduceLT, Nat.reduceLeDiff, Nat.reduceEqDiff, Nat.reduceAdd, Nat.reduceMul, Nat.reduceSub, Nat.reduceBEq, updL, cellsFrom, reduceCtorEq, ints, bools, intss, sl1, wFacts]
  refine run_loop (fun j : Nat => ⟨5, [], [I n, .any, .any, .osl 0 (mem8n n j).length 1 0 (mem8n n j).length, I j], [], [.row (mem8n n j).length (mem8n n j).length (slF I 0 (mem8n n j))]⟩) (fun j => j ≤ 8) (fun j => 8 - j) 0 (by omega)
    ((sub_adopt 3 1 (slF I 0 []) rfl).trans (sub_mk rfl ?_ ?_ ?_)) ?_
  · simp [subL, AS.put, ints, sl1, I, mem8n, allI]
  · simp [subT]
  · simp [AS.put, mem8n, allI]
  intro j hj next
  have w1 := wj j (by omega)
  have hn := mem8_len n j
  refine vc_soundN 1000 ?_
  simp only [w1, tb_eq, ↓wPre, wPost, List.getD_cons_succ, List.getD_cons_zero, List.set_cons_succ, List.set_cons_zero, List.map_cons, List.map_nil, List.all_cons, List.all_nil, List.length_cons, List.length_nil, List.cons_append, List.nil_append, List.append_nil, List.getElem?_cons_succ, List.getElem?_cons_zero, List.replicate_succ, List.replicate_zero, List.contains_cons, List.contains_nil, List.elem_cons, List.elem_nil, Nat.zero_add, Nat.add_zero, Nat.zero_lt_succ, Int.toNat_zero, Nat.min_self, Nat.zero_min, Nat.min_zero, Nat.sub_zero, Nat.zero_mul, Int.le_refl, Nat.le_refl, Option.getD_none, Option.getD_some, Int.toNat_one, Nat.lt_irrefl, Nat.mul_one, Bool.false_eq_true, Bool.true_eq_false, decide_true, decide_false, decide_eq_true_eq, decide_eq_false_iff_not, Bool.not_true, Bool.not_false, Bool.not_eq_true', Bool.not_eq_false', Bool.and_true, Bool.true_and, Bool.false_and, beq_self_eq_true, ite_true, ite_false, Option.map_some, Option.map_none, Option.isSome_some, true_and, and_true, false_and, and_false, not_true_eq_false, not_false_eq_true, false_implies, true_implies, implies_true, eq_self, ne_eq, or_true, true_or, or_false, false_or, Bool.or_false, Bool.or_true, Bool.false_or, Bool.true_or, Int.toNat_natCast, Int.natCast_nonneg, Int.ofNat_lt, Int.ofNat_le, Int.ofNat_inj, Int.ofNat_zero, ↓reduceIte, reduceIte, replT, filtT, countL, cls, look, aload, astore, aindex, afieldA, afield, aidx, apart, aslice, ibound, acap, azapp, abuildS, abuild, aFill, setL, zrep, asrc, aappend, aconv, alen, amake, amkmap, alookup, aupdate, aalloc, abox, newO, place, rd, Nat.reducePow, AV.isPtr, Nat.reduceLT, Nat.reduceLeDiff, Nat.reduceEqDiff, Nat.reduceAdd, Nat.reduceMul, Nat.reduceSub, Nat.reduceBEq, updL, cellsFrom, reduceCtorEq, ints, bools, intss, sl1, wFacts]
  refine ⟨fun h => ⟨fun ht => ⟨(by omega), next (j + 1) _ (by omega) (by omega) (sub_mk rfl ?_ ?_ ?_)⟩, fun ht => next (j + 1) _ (by omega) (by omega) (sub_mk rfl ?_ ?_ ?_)⟩, fun h => ?_⟩
  iterate 6 simp [mem8_succ, ht, subL, subT, I]
  obtain rfl : j = 8 := by omega
  exact ret1 rfl (sees_intsE rfl rfl rfl rfl (Nat.le_refl _))

def bitsN (some : List Int) : Int := (some.map fun i => (2:Int) ^ i.toNat).sum
theorem bitsN_snoc (l : List Int) (i : Int) : bitsN (l ++ [i]) = bitsN l + 2 ^ i.toNat := by simp [bitsN]
theorem bitsN_bound (l : List Int) (h : ∀ i ∈ l, 0 ≤ i ∧ i < 8) : 0 ≤ bitsN l ∧ bitsN l ≤ 256 * l.length := by
  induction l with
  | nil => simp [bitsN]
  | cons a l ih =>
    have h1 := ih fun i hi => h i (by simp [hi])
    have h2 := h a (by simp)
    have h3 := pow_le a.toNat 8 (by omega)
    have h4 := pow_pos a.toNat
    simp only [bitsN, List.map_cons, List.sum_cons, List.length_cons] at *
    omega

theorem bits_fn (some : List Int) (hs : ∀ i ∈ some, 0 ≤ i ∧ i < 8) (hl : some.length < 1048576) : Fn Try.prog 34 [ints some] (I (bitsN some)) := by
  refine Fn.intro (fn := Try.f34) Try.call34 Try.func34 rfl mixed 5 [] [] [] (by kernel_rfl) (Nat.le_of_ble_eq_true rfl) (by simp [settled_ints]) (vc_soundN 1000 ?_)
  simp only [AS.start, ↓wPre, wPost, List.getD_cons_succ, List.getD_cons_zero, List.set_cons_succ, List.set_cons_zero, List.map_cons, List.map_nil, List.all_cons, List.all_nil, List.length_cons, List.length_nil, List.cons_append, List.nil_append, List.append_nil, List.getElem?_cons_succ, List.getElem?_cons_zero, List.replicate_succ, List.replicate_zero, List.contains_cons, List.contains_nil, List.elem_cons, List.elem_nil, Nat.zero_add, Nat.add_zero, Nat.zero_lt_succ, Int.toNat_zero, Nat.min_self, Nat.zero_min, Nat.min_zero, Nat.sub_zero, Nat.zero_mul, Int.le_refl, Nat.le_refl, Option.getD_none, Option.getD_some, Int.toNat_one, Nat.lt_irrefl, Nat.mul_one, Bool.false_eq_true, Bool.true_eq_false, decide_true, decide_false, decide_eq_true_eq, decide_eq_false_iff_not, Bool.not_true, Bool.not_false, Bool.not_eq_true', Bool.not_eq_false', Bool.and_true, Bool.true_and, Bool.false_and, beq_self_eq_true, ite_true, ite_false, Option.map_some, Option.map_none, Option.isSome_some, true_and, and_true, false_and, and_false, not_true_eq_false, not_false_eq_true, false_implies, true_implies, implies_true, eq_self, ne_eq, or_true, true_or, or_false, false_or, Bool.or_false, Bool.or_true, Bool.false_or, Bool.true_or, Int.toNat_natCast, Int.natCast_nonneg, Int.ofNat_lt, Int.ofNat_le, Int.ofNat_inj, Int.ofNat_zero, ↓reduceIte, reduceIte, replT, filtT, countL, cls, look, aload, astore, aindex, afieldA, afield, aidx, apart, aslice, ibound, acap, azapp, abuildS, abuild, aFill, setL, zrep, asrc, aappend, aconv, alen, amake, amkmap, alookup, aupdate, aalloc, abox, newO, place, rd, Nat.reducePow, AV.isPtr, Nat.reduceLT, Nat.reduceLeDiff, Nat.reduceEqDiff, Nat.reduceAdd, Nat.reduceMul, Nat.reduceSub, Nat.reduceBEq, updL, cellsFrom, reduceCtorEq, ints, bools, intss, sl1, wFacts]
  refine run_loop (fun j : Nat => ⟨5, [], [ints some, .any, .any, I (bitsN (some.take j)), I j], [], []⟩) (fun j => j ≤ some.length) (fun j => some.length - j) 0 (by omega)
    (sub_mk rfl (by simp [subL, ints, sl1, I, bitsN]) (by simp [subT]) rfl) ?_
  intro j hj next
  have w1 := wj j (by omega)
  refine vc_soundN 1000 ?_
  simp only [w1, ↓wPre, wPost, List.getD_cons_succ, List.getD_cons_zero, List.set_cons_succ, List.set_cons_zero, List.map_cons, List.map_nil, List.all_cons, List.all_nil, List.length_cons, List.length_nil, List.cons_append, List.nil_append, List.append_nil, List.getElem?_cons_succ, List.getElem?_cons_zero, List.replicate_succ, List.replicate_zero, List.contains_cons, List.contains_nil, List.elem_cons, List.elem_nil, Nat.zero_add, Nat.add_zero, Nat.zero_lt_succ, Int.toNat_zero, Nat.min_self, Nat.zero_min, Nat.min_zero, Nat.sub_zero, Nat.zero_mul, Int.le_refl, Nat.le_refl, Option.getD_none, Option.getD_some, Int.toNat_one, Nat.lt_irrefl, Nat.mul_one, Bool.false_eq_true, Bool.true_eq_false, decide_true, decide_false, decide_eq_true_eq, decide_eq_false_iff_not, Bool.not_true, Bool.not_false, Bool.not_eq_true', Bool.not_eq_false', Bool.and_true, Bool.true_and, Bool.false_and, beq_self_eq_true, ite_true, ite_false, Option.map_some, Option.map_none, Option.isSome_some, true_and, and_true, false_and, and_false, not_true_eq_false, not_false_eq_true, false_implies, true_implies, implies_true, eq_self, ne_eq, or_true, true_or, or_false, false_or, Bool.or_false, Bool.or_true, Bool.false_or, Bool.true_or, Int.toNat_natCast, Int.natCast_nonneg, Int.ofNat_lt, Int.ofNat_le, Int.ofNat_inj, Int.ofNat_zero, ↓reduceIte, reduceIte, replT, filtT, countL, cls, look, aload, astore, aindex, afieldA, afield, aidx, apart, aslice, ibound, acap, azapp, abuildS, abuild, aFill, setL, zrep, asrc, aappend, aconv, alen, amake, amkmap, alookup, aupdate, aalloc, abox, newO, place, rd, Nat.reducePow, AV.isPtr, Nat.reduceLT, Nat.reduceLeDiff, Nat.reduceEqDiff, Nat.reduceAdd, Nat.reduceMul, Nat.reduceSub, Nat.reduceBEq, updL, cellsFrom, reduceCtorEq, ints, bools, intss, sl1, wFacts]
  refine ⟨fun h => ?_, fun h => ?_⟩
  · obtain ⟨h0, h1⟩ := hs _ (getD_mem (d := 0) h)
    have e := take_succ_getD some 0 j h
    have hb := bitsN_bound (some.take j) fun i hi => hs i (List.mem_of_mem_take hi)
    have hb2 : (some.take j).length ≤ j := List.length_take_le _ _
    have e2 : ishl .i64 1 (some.getD j 0) = 2 ^ (some.getD j 0).toNat := by
      have := ishl1 (some.getD j 0).toNat (by omega)
      rwa [Int.toNat_of_nonneg h0] at this
    have h3 := pow_le (some.getD j 0).toNat 8 (by omega)
    have h4 := pow_pos (some.getD j 0).toNat
    have h5 : (2:Int) ^ 8 = 256 := by decide
    have e3 : IntKind.i64.wrap (bitsN (some.take j) + 2 ^ (some.getD j 0).toNat) = bitsN (some.take (j + 1)) := by rw [e, bitsN_snoc, IntKind.wrap_i64]; omega
    refine ⟨h, h, h0, next (j + 1) _ (by omega) (by omega) (sub_mk rfl ?_ ?_ ?_)⟩
    · rw [e2, e3]
      simp [subL, ints, sl1, I]
    · simp [subT]
    · rfl
  · obtain rfl : j = some.length := by omega
    exact ret1 rfl (sees_of (settled_I _) (by simp [AS.get, I]))
end
end Go.Ab.Q
