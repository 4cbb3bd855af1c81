/- Contracts of functions of this chapter, for every argument that fits, and what they need. -/
import Derived.Test.YtfjcglohkajbhaaQ10
set_option linter.unusedSimpArgs false
set_option linter.unusedVariables false
namespace Go.Ab.Q
open Go Go.RowKit Go.Proofs
noncomputable section
set_option maxRecDepth 10000
set_option maxHeartbeats 1000000
set_option linter.unusedSimpArgs false
open Classical

def parse : Nat → List Int → Option (Tr × List Int)
  | 0, _ => none
  | _ + 1, [] => none
  | f + 1, n :: l => if 8 ≤ n ∨ n < -8 then none else if n < 0 then some (.node (-1) .nil .nil (-1 - n), l) else
    match parse f l with
    | none => none
    | some (a, l1) => match parse f l1 with
      | none => none
      | some (b, l2) => some (.node n a b (-1), l2)

theorem cells_tree (t : Tr) : (treeA t).cells = [treeA t] := by cases t <;> rfl
theorem one_tree (t : Tr) : (treeA t).one = true := by cases t <;> rfl
/-- A part of a list that was cut off in front. -/
theorem weak_cut (l : List Int) {n m : Nat} {f : Nat → AV} {t : Bool} (h1 : n = l.length) (h2 : l.length ≤ m) (hf : ∀ j, j < l.length → f j = I (l.getD j 0)) : Weak (.sl n m f t) (ints l) :=
  weak_slE h1 h2 hf
theorem sees_tree {H : List AO} {id ver off : Nat} {a w : Int} {n y : Tr} (ho : H[id]? = some (.row ver 4 (ofL [I a, treeA n, treeA y, I w])) ∨ H[id]? = some (.con ver 4 (ofL [I a, treeA n, treeA y, I w]))) (hoff : off = 0) : Sees H (.ref id ver off) (treeA (.node a n y w)) := by
  subst hoff
  exact sees_ref ho (by omega) fun j hj => by
    rcases (show j = 0 ∨ j = 1 ∨ j = 2 ∨ j = 3 by omega) with rfl | rfl | rfl | rfl
    · exact (settled_I _).sees H
    · exact (settled_tree _).sees H
    · exact (settled_tree _).sees H
    · exact (settled_I _).sees H

theorem parse_len : ∀ (fuel : Nat) (l : List Int) (t : Tr) (rest : List Int), parse fuel l = some (t, rest) → rest.length < l.length
  | 0, l, t, rest, h => by simp [parse] at h
  | _ + 1, [], t, rest, h => by simp [parse] at h
  | f + 1, n :: l, t, rest, h => by
    simp only [parse] at h
    split at h
    · cases h
    · split at h
      · simp only [Option.some.injEq, Prod.mk.injEq] at h
        rw [← h.2]; simp
      · cases h1 : parse f l with
        | none => simp [h1] at h
        | some p =>
          obtain ⟨a, l1⟩ := p
          simp only [h1] at h
          have h3 := parse_len f l a l1 h1
          cases h2 : parse f l1 with
          | none => simp [h2] at h
          | some q =>
            obtain ⟨b, l2⟩ := q
            simp only [h2, Option.some.injEq, Prod.mk.injEq] at h
            have h4 := parse_len f l1 b l2 h2
            rw [← h.2]; simp; omega

def readF : Nat → List Int → Tr × List Int × Bool
  | 0, _ => (.nil, [], false)
  | _ + 1, [] => (.nil, [], false)
  | f + 1, n :: l => if 8 ≤ n ∨ n < -8 then (.nil, [], false) else if n < 0 then (.node (-1) .nil .nil (-1 - n), l, true) else if (readF f l).2.2 = false then (.nil, [], false) else
    (.node n (readF f l).1 (readF f (readF f l).2.1).1 (-1), (readF f (readF f l).2.1).2.1, (readF f (readF f l).2.1).2.2)
theorem parse_read : ∀ (f : Nat) (l : List Int), parse f l = if (readF f l).2.2 = true then some ((readF f l).1, (readF f l).2.1) else none
  | 0, _ => rfl
  | _ + 1, [] => rfl
  | f + 1, n :: l => by
    have h1 := parse_read f l
    have h2 := parse_read f (readF f l).2.1
    simp only [parse, readF]
    split
    · rfl
    · split
      · rfl
      · rw [h1]
        cases e1 : (readF f l).2.2
        · simp
        · simp only [if_true]
          rw [h2]
          cases e2 : (readF f (readF f l).2.1).2.2 <;> simp
theorem read_len : ∀ (f : Nat) (l : List Int), (readF f l).2.1.length ≤ l.length
  | 0, l => by simp [readF]
  | _ + 1, [] => by simp [readF]
  | f + 1, n :: l => by
    have h1 := read_len f l
    have h2 := read_len f (readF f l).2.1
    simp only [readF]
    split
    · simp
    · split
      · simp
      · split
        · simp
        · simp only [List.length_cons]; omega
theorem read_in : ∀ (f : Nat) (l : List Int), (∀ x ∈ l, in64 x) → ∀ x ∈ (readF f l).2.1, in64 x
  | 0, l, _ => by simp [readF]
  | _ + 1, [], _ => by simp [readF]
  | f + 1, n :: l, h => by
    have h0 : ∀ x ∈ l, in64 x := fun x hx => h x (by simp [hx])
    have h1 := read_in f l h0
    have h2 := read_in f (readF f l).2.1 h1
    simp only [readF]
    split
    · simp
    · split
      · exact h0
      · split
        · simp
        · exact h2

theorem read_fn : ∀ (fuel : Nat) (l : List Int), l.length ≤ fuel → l.length < 1048576 → (∀ x ∈ l, in64 x) → Fn Try.prog 38 [ints l] (.tup [treeA (readF (fuel + 1) l).1, ints (readF (fuel + 1) l).2.1, .bool (readF (fuel + 1) l).2.2])
  | fuel, [], _, _, _ => by
    refine Fn.intro (fn := Try.f38) Try.call38 Try.func38 rfl mixed 9 [] [] [] (by kernel_rfl) (Nat.le_of_ble_eq_true rfl) (by simp [settled_ints, settled_I, settled_fn0, settled_intss, settled_bool, settled_tree, settled_nil]) (vc_soundN 1000 ?_); simp (config := { maxSteps := 2000000 }) only [AS.start, ↓wPre, wPost, List.getD_cons_succ, List.getD_cons_zero, List.set_cons_succ, List.set_cons_zero, List.map_cons, List.map_nil, List.all_cons, List.all_nil, List.length_cons, List.length_nil, List.cons_append, List.nil_append, List.append_nil, List.getElem?_cons_succ, List.getElem?_cons_zero, List.replicate_succ, List.replicate_zero, List.contains_cons, List.contains_nil, List.elem_cons, List.elem_nil, Nat.zero_add, Nat.add_zero, Nat.zero_lt_succ, Int.toNat_zero, Nat.min_self, Nat.zero_min, Nat.min_zero, Nat.sub_zero, Nat.zero_mul, Int.le_refl, Nat.le_refl, Option.getD_none, Option.getD_some, Int.toNat_one, Nat.lt_irrefl, Nat.mul_one, Bool.false_eq_true, Bool.true_eq_false, decide_true, decide_false, decide_eq_true_eq, decide_eq_false_iff_not, Bool.not_true, Bool.not_false, Bool.not_eq_true', Bool.not_eq_false', Bool.and_true, Bool.true_and, Bool.false_and, beq_self_eq_true, ite_true, ite_false, Option.map_some, Option.map_none, Option.isSome_some, true_and, and_true, false_and, and_false, not_true_eq_false, not_false_eq_true, false_implies, true_implies, implies_true, eq_self, ne_eq, or_true, true_or, or_false, false_or, Bool.or_false, Bool.or_true, Bool.false_or, Bool.true_or, Int.toNat_natCast, Int.natCast_nonneg, Int.ofNat_lt, Int.ofNat_le, Int.ofNat_inj, Int.ofNat_zero, ↓reduceIte, reduceIte, replT, filtT, countL, cls, look, aload, astore, aindex, afieldA, afield, aidx, apart, aslice, ibound, acap, azapp, abuildS, abuild, aFill, setL, zrep, asrc, aappend, aconv, alen, amake, amkmap, alookup, aupdate, aalloc, abox, newO, place, rd, Nat.reducePow, AV.isPtr, Nat.reduceLT, Nat.reduceLeDiff, Nat.reduceEqDiff, Nat.reduceAdd, Nat.reduceMul, Nat.reduceSub, Nat.reduceBEq, updL, cellsFrom, reduceCtorEq, ints, bools, intss, sl1, wFacts]
    exact ret3 rfl (sees_tup ⟨settled_nil.sees _, sees_empty, (settled_bool _).sees _, trivial⟩)
  | 0, _ :: _, h, _, _ => by simp at h
  | fuel + 1, n :: l, hl, hll, hin => by
    have hl' : l.length ≤ fuel := by simpa using hl
    have hll' : l.length < 1048576 := by simp at hll; omega
    have hin' : ∀ x ∈ l, in64 x := fun x hx => hin x (by simp [hx])
    have ih1 := read_fn fuel l hl' hll' hin'
    have ih2 := read_fn fuel (readF (fuel + 1) l).2.1 (Nat.le_trans (read_len _ _) hl') (Nat.lt_of_le_of_lt (read_len _ _) hll') (read_in _ _ hin')
    have hn := hin n (by simp)
    have bad : (8 ≤ n ∨ n < -8) → readF (fuel + 2) (n :: l) = (.nil, [], false) := fun h => if_pos h
    refine Fn.intro (fn := Try.f38) Try.call38 Try.func38 rfl mixed 9 [] [] [] (by kernel_rfl) (Nat.le_of_ble_eq_true rfl) (by simp [settled_ints, settled_I, settled_fn0, settled_intss, settled_bool, settled_tree, settled_nil]) (vc_soundN 1000 ?_); simp (config := { maxSteps := 2000000 }) only [AS.start, ↓wPre, wPost, List.getD_cons_succ, List.getD_cons_zero, List.set_cons_succ, List.set_cons_zero, List.map_cons, List.map_nil, List.all_cons, List.all_nil, List.length_cons, List.length_nil, List.cons_append, List.nil_append, List.append_nil, List.getElem?_cons_succ, List.getElem?_cons_zero, List.replicate_succ, List.replicate_zero, List.contains_cons, List.contains_nil, List.elem_cons, List.elem_nil, Nat.zero_add, Nat.add_zero, Nat.zero_lt_succ, Int.toNat_zero, Nat.min_self, Nat.zero_min, Nat.min_zero, Nat.sub_zero, Nat.zero_mul, Int.le_refl, Nat.le_refl, Option.getD_none, Option.getD_some, Int.toNat_one, Nat.lt_irrefl, Nat.mul_one, Bool.false_eq_true, Bool.true_eq_false, decide_true, decide_false, decide_eq_true_eq, decide_eq_false_iff_not, Bool.not_true, Bool.not_false, Bool.not_eq_true', Bool.not_eq_false', Bool.and_true, Bool.true_and, Bool.false_and, beq_self_eq_true, ite_true, ite_false, Option.map_some, Option.map_none, Option.isSome_some, true_and, and_true, false_and, and_false, not_true_eq_false, not_false_eq_true, false_implies, true_implies, implies_true, eq_self, ne_eq, or_true, true_or, or_false, false_or, Bool.or_false, Bool.or_true, Bool.false_or, Bool.true_or, Int.toNat_natCast, Int.natCast_nonneg, Int.ofNat_lt, Int.ofNat_le, Int.ofNat_inj, Int.ofNat_zero, ↓reduceIte, reduceIte, replT, filtT, countL, cls, look, aload, astore, aindex, afieldA, afield, aidx, apart, aslice, ibound, acap, azapp, abuildS, abuild, aFill, setL, zrep, asrc, aappend, aconv, alen, amake, amkmap, alookup, aupdate, aalloc, abox, newO, place, rd, Nat.reducePow, AV.isPtr, Nat.reduceLT, Nat.reduceLeDiff, Nat.reduceEqDiff, Nat.reduceAdd, Nat.reduceMul, Nat.reduceSub, Nat.reduceBEq, updL, cellsFrom, reduceCtorEq, ints, bools, intss, sl1, wFacts]
    have w1 : -8 ≤ n → n < 8 → IntKind.i64.wrap (-1 - n) = -1 - n := fun h1 h2 => by rw [IntKind.wrap_i64]; omega
    refine ⟨fun h => by omega, fun _ => ⟨by omega, fun h => ?_, fun h1 => ⟨by omega, fun h => ?_, fun h2 => ⟨by omega, by omega, fun h => ?_, fun h3 => ?_⟩⟩⟩⟩
    · rw [bad (.inl h)]
      exact ret3 rfl (sees_tup ⟨settled_nil.sees _, sees_empty, (settled_bool _).sees _, trivial⟩)
    · rw [bad (.inr h)]
      exact ret3 rfl (sees_tup ⟨settled_nil.sees _, sees_empty, (settled_bool _).sees _, trivial⟩)
    · have e : readF (fuel + 2) (n :: l) = (.node (-1) .nil .nil (-1 - n), l, true) := by
        simp only [readF]; rw [if_neg (by omega), if_pos h]
      rw [e]
      refine ret3 rfl (sees_tup ⟨sees_tree (.inl ?_) rfl, sees_of_weak (settled_ints _) (weak_cut l (by first | omega | (simp; done) | (simp; omega)) (by first | omega | (simp; done) | (simp; omega)) ?_), (settled_bool _).sees _, trivial⟩)
      · rw [w1 (by omega) (by omega)]; rfl
      · intro j _; simp [Nat.add_comm, I]
    refine call_weak ih1 ⟨weak_cut l (by first | omega | (simp; done) | (simp; omega)) (by first | omega | (simp; done) | (simp; omega)) (fun j _ => by simp [Nat.add_comm, I]), trivial⟩ ?_
    simp only [↓wPre, wPost, List.getD_cons_succ, List.getD_cons_zero, List.set_cons_succ, List.set_cons_zero, List.map_cons, List.map_nil, List.all_cons, List.all_nil, List.length_cons, List.length_nil, List.cons_append, List.nil_append, List.append_nil, List.getElem?_cons_succ, List.getElem?_cons_zero, List.replicate_succ, List.replicate_zero, List.contains_cons, List.contains_nil, List.elem_cons, List.elem_nil, Nat.zero_add, Nat.add_zero, Nat.zero_lt_succ, Int.toNat_zero, Nat.min_self, Nat.zero_min, Nat.min_zero, Nat.sub_zero, Nat.zero_mul, Int.le_refl, Nat.le_refl, Option.getD_none, Option.getD_some, Int.toNat_one, Nat.lt_irrefl, Nat.mul_one, Bool.false_eq_true, Bool.true_eq_false, decide_true, decide_false, decide_eq_true_eq, decide_eq_false_iff_not, Bool.not_true, Bool.not_false, Bool.not_eq_true', Bool.not_eq_false', Bool.and_true, Bool.true_and, Bool.false_and, beq_self_eq_true, ite_true, ite_false, Option.map_some, Option.map_none, Option.isSome_some, true_and, and_true, false_and, and_false, not_true_eq_false, not_false_eq_true, false_implies, true_implies, implies_true, eq_self, ne_eq, or_true, true_or, or_false, false_or, Bool.or_false, Bool.or_true, Bool.false_or, Bool.true_or, Int.toNat_natCast, Int.natCast_nonneg, Int.ofNat_lt, Int.ofNat_le, Int.ofNat_inj, Int.ofNat_zero, ↓reduceIte, reduceIte, replT, filtT, countL, cls, look, aload, astore, aindex, afieldA, afield, aidx, apart, aslice, ibound, acap, azapp, abuildS, abuild, aFill, setL, zrep, asrc, aappend, aconv, alen, amake, amkmap, alookup, aupdate, aalloc, abox, newO, place, rd, Nat.reducePow, AV.isPtr, Nat.reduceLT, Nat.reduceLeDiff, Nat.reduceEqDiff, Nat.reduceAdd, Nat.reduceMul, Nat.reduceSub, Nat.reduceBEq, updL, cellsFrom, reduceCtorEq, ints, bools, intss, sl1, wFacts]
    refine guardP_intron (fun h => ?_) (fun h => ?_)
    · have e : readF (fuel + 2) (n :: l) = (.nil, [], false) := by
        simp only [readF]; rw [if_neg (by omega), if_neg (by omega), if_pos h]
      rw [e]
      exact ret3 rfl (sees_tup ⟨settled_nil.sees _, sees_empty, (settled_bool _).sees _, trivial⟩)
    have e : readF (fuel + 2) (n :: l) = (.node n (readF (fuel + 1) l).1 (readF (fuel + 1) (readF (fuel + 1) l).2.1).1 (-1), (readF (fuel + 1) (readF (fuel + 1) l).2.1).2.1, (readF (fuel + 1) (readF (fuel + 1) l).2.1).2.2) := by
      rw [readF]; rw [if_neg (by omega), if_neg (by omega), if_neg (by rw [h]; simp)]
    rw [e]
    refine call_fn ih2 rfl ?_
    simp only [cells_tree, one_tree, loose_tree', ↓wPre, wPost, List.getD_cons_succ, List.getD_cons_zero, List.set_cons_succ, List.set_cons_zero, List.map_cons, List.map_nil, List.all_cons, List.all_nil, List.length_cons, List.length_nil, List.cons_append, List.nil_append, List.append_nil, List.getElem?_cons_succ, List.getElem?_cons_zero, List.replicate_succ, List.replicate_zero, List.contains_cons, List.contains_nil, List.elem_cons, List.elem_nil, Nat.zero_add, Nat.add_zero, Nat.zero_lt_succ, Int.toNat_zero, Nat.min_self, Nat.zero_min, Nat.min_zero, Nat.sub_zero, Nat.zero_mul, Int.le_refl, Nat.le_refl, Option.getD_none, Option.getD_some, Int.toNat_one, Nat.lt_irrefl, Nat.mul_one, Bool.false_eq_true, Bool.true_eq_false, decide_true, decide_false, decide_eq_true_eq, decide_eq_false_iff_not, Bool.not_true, Bool.not_false, Bool.not_eq_true', Bool.not_eq_false', Bool.and_true, Bool.true_and, Bool.false_and, beq_self_eq_true, ite_true, ite_false, Option.map_some, Option.map_none, Option.isSome_some, true_and, and_true, false_and, and_false, not_true_eq_false, not_false_eq_true, false_implies, true_implies, implies_true, eq_self, ne_eq, or_true, true_or, or_false, false_or, Bool.or_false, Bool.or_true, Bool.false_or, Bool.true_or, Int.toNat_natCast, Int.natCast_nonneg, Int.ofNat_lt, Int.ofNat_le, Int.ofNat_inj, Int.ofNat_zero, ↓reduceIte, reduceIte, replT, filtT, countL, cls, look, aload, astore, aindex, afieldA, afield, aidx, apart, aslice, ibound, acap, azapp, abuildS, abuild, aFill, setL, zrep, asrc, aappend, aconv, alen, amake, amkmap, alookup, aupdate, aalloc, abox, newO, place, rd, Nat.reducePow, AV.isPtr, Nat.reduceLT, Nat.reduceLeDiff, Nat.reduceEqDiff, Nat.reduceAdd, Nat.reduceMul, Nat.reduceSub, Nat.reduceBEq, updL, cellsFrom, reduceCtorEq, ints, bools, intss, sl1, wFacts]
    exact ret3 rfl (sees_tup ⟨sees_tree (.inl rfl) rfl, sees_of (settled_ints _) rfl, (settled_bool _).sees _, trivial⟩)

theorem read_enough : ∀ (l : List Int) (f f' : Nat), l.length ≤ f → l.length ≤ f' → readF (f + 1) l = readF (f' + 1) l
  | [], _, _, _, _ => rfl
  | n :: l, 0, _, h, _ => by simp at h
  | n :: l, _ + 1, 0, _, h => by simp at h
  | n :: l, f + 1, f' + 1, h, h' => by
    have h1 := read_enough l f f' (by simpa using h) (by simpa using h')
    have hr := read_len (f + 1) l
    have h2 := read_enough (readF (f + 1) l).2.1 f f' (by simp at h; omega) (by simp at h'; omega)
    rw [readF, readF, ← h1, ← h2]
termination_by l => l.length
decreasing_by
  all_goals simp_all
  all_goals omega
end
end Go.Ab.Q
