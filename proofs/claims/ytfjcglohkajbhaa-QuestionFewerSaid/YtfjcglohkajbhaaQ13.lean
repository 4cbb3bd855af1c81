/- Contracts of functions of this chapter, for every argument that fits, and what they need. -/
import Derived.Test.YtfjcglohkajbhaaQ12
set_option linter.unusedSimpArgs false
set_option linter.unusedVariables false
namespace Go.Ab.Q
open Go Go.RowKit Go.Proofs
noncomputable section
set_option maxRecDepth 10000
set_option maxHeartbeats 1000000
set_option linter.unusedSimpArgs false
open Classical

theorem abin_tree (P : Program) (t : TypeId) (n : Tr) : abin P .eql t (treeA n) .nil = oif (ptrT P t = true) (some (.bool (decide (n = .nil)))) := by
  cases n <;> simp [treeA, abin, AV.isPtr]
theorem abin_treeN (P : Program) (t : TypeId) (n : Tr) : abin P .neq t (treeA n) .nil = oif (ptrT P t = true) (some (.bool (!decide (n = .nil)))) := by
  cases n <;> simp [treeA, abin, AV.isPtr]
def flw2 (W C : List Int) : List Int → Tr → Int × Bool
  | _, .nil => (0, false)
  | l, .node a n y w => if l.length = 0 then (0, false) else if a = -1 then (0, decide (n = .nil ∧ y = .nil ∧ l.length = 1 ∧ l.getD 0 0 = w)) else if a < 0 ∨ C.length ≤ a ∨ w ≠ -1 then (0, false) else
    if (flw2 W C (side W l a false) n).2 = false then (0, false) else
    (IntKind.i64.wrap (C.getD a.toNat 0 + (if (flw2 W C (side W l a false) n).1 < (flw2 W C (side W l a true) y).1 then (flw2 W C (side W l a true) y).1 else (flw2 W C (side W l a false) n).1)), (flw2 W C (side W l a true) y).2)

theorem follow_step (W C : List Int) (hW : W.length < 1048576) (hC : C.length < 1048576) (a : Int) (n y : Tr) (w : Int) (l : List Int) (hs : ∀ i ∈ l, 0 ≤ i ∧ i < W.length) (hl : l.length < 1048576)
    (ih1 : Fn Try.prog 40 [ints W, ints C, ints (side W l a false), treeA n] (.tup [I (flw2 W C (side W l a false) n).1, .bool (flw2 W C (side W l a false) n).2]))
    (ih2 : Fn Try.prog 40 [ints W, ints C, ints (side W l a true), treeA y] (.tup [I (flw2 W C (side W l a true) y).1, .bool (flw2 W C (side W l a true) y).2])) :
    Fn Try.prog 40 [ints W, ints C, ints l, treeA (.node a n y w)] (.tup [I (flw2 W C l (.node a n y w)).1, .bool (flw2 W C l (.node a n y w)).2]) := by
  have hst := settled_tree (.node a n y w)
  unfold treeA at hst ⊢
  refine Fn.intro (fn := Try.f40) Try.call40 Try.func40 rfl mixed 17 [80, 81, 82] [] [] (by kernel_rfl) (Nat.le_of_ble_eq_true rfl) (by simpa [settled_ints] using hst) (vc_soundN 1000 ?_)
  simp (config := { maxSteps := 2000000 }) only [AS.start, abin_tree, ↓wPre, wPost, List.getD_cons_succ, List.getD_cons_zero, List.set_cons_succ, List.set_cons_zero, List.map_cons, List.map_nil, List.all_cons, List.all_nil, List.length_cons, List.length_nil, List.cons_append, List.nil_append, List.append_nil, List.getElem?_cons_succ, List.getElem?_cons_zero, List.replicate_succ, List.replicate_zero, List.contains_cons, List.contains_nil, List.elem_cons, List.elem_nil, Nat.zero_add, Nat.add_zero, Nat.zero_lt_succ, Int.toNat_zero, Nat.min_self, Nat.zero_min, Nat.min_zero, Nat.sub_zero, Nat.zero_mul, Int.le_refl, Nat.le_refl, Option.getD_none, Option.getD_some, Int.toNat_one, Nat.lt_irrefl, Nat.mul_one, Bool.false_eq_true, Bool.true_eq_false, decide_true, decide_false, decide_eq_true_eq, decide_eq_false_iff_not, Bool.not_true, Bool.not_false, Bool.not_eq_true', Bool.not_eq_false', Bool.and_true, Bool.true_and, Bool.false_and, beq_self_eq_true, ite_true, ite_false, Option.map_some, Option.map_none, Option.isSome_some, true_and, and_true, false_and, and_false, not_true_eq_false, not_false_eq_true, false_implies, true_implies, implies_true, eq_self, ne_eq, or_true, true_or, or_false, false_or, Bool.or_false, Bool.or_true, Bool.false_or, Bool.true_or, Int.toNat_natCast, Int.natCast_nonneg, Int.ofNat_lt, Int.ofNat_le, Int.ofNat_inj, Int.ofNat_zero, ↓reduceIte, reduceIte, replT, filtT, countL, cls, look, aload, astore, aindex, afieldA, afield, aidx, apart, aslice, ibound, acap, azapp, abuildS, abuild, aFill, setL, zrep, asrc, aappend, aconv, alen, amake, amkmap, alookup, aupdate, aalloc, abox, newO, place, rd, Nat.reducePow, AV.isPtr, Nat.reduceLT, Nat.reduceLeDiff, Nat.reduceEqDiff, Nat.reduceAdd, Nat.reduceMul, Nat.reduceSub, Nat.reduceBEq, updL, cellsFrom, reduceCtorEq, ints, bools, intss, sl1, wFacts]
  have ret : ∀ {x : Int × Bool} {s : AS}, flw2 W C l (.node a n y w) = x → s.get 8 = I x.1 → s.get 9 = .bool x.2 → RetOk (envP Try.prog Try.f40 [] [] (.tup [I (flw2 W C l (.node a n y w)).1, .bool (flw2 W C l (.node a n y w)).2])) s := by
    rintro x s e h1 h2
    rw [e]
    exact ret2E rfl h1 h2 (settled_I _) (settled_bool _) rfl rfl
  have leaf : l.length ≠ 0 → a = -1 → flw2 W C l (.node a n y w) = (0, decide (n = .nil ∧ y = .nil ∧ l.length = 1 ∧ l.getD 0 0 = w)) := fun h1 h2 => by
    rw [flw2, if_neg h1, if_pos h2]
  have bad : l.length ≠ 0 → a ≠ -1 → (a < 0 ∨ C.length ≤ a ∨ w ≠ -1) → flw2 W C l (.node a n y w) = (0, false) := fun h1 h2 h3 => by
    rw [flw2, if_neg h1, if_neg h2, if_pos h3]
  refine ⟨fun h => ret (x := (0, false)) (by rw [flw2, if_pos (by omega)]) rfl rfl, fun h0 => ⟨fun ha => ⟨fun hn => ⟨fun hy => ⟨fun h1 => ⟨by omega, by omega, ret (leaf (by omega) ha) rfl ?_⟩, fun h1 => ret (leaf (by omega) ha) rfl ?_⟩, fun hy => ret (leaf (by omega) ha) rfl ?_⟩, fun hn => ret (leaf (by omega) ha) rfl ?_⟩,
    fun ha => ⟨fun h1 => ret (bad (by omega) ha (.inl h1)) rfl rfl, fun h1 => ⟨fun h2 => ret (bad (by omega) ha (.inr (.inl h2))) rfl rfl, fun h2 => ⟨fun h3 => ret (bad (by omega) ha (.inr (.inr h3))) rfl rfl, fun hw => ?_⟩⟩⟩⟩⟩
  · simp only [hn, hy, true_and, show l.length = 1 by omega]; rfl
  · simp only [show ¬ l.length = 1 by omega, false_and, and_false, decide_false]; rfl
  · simp only [hy, false_and, and_false, decide_false]; rfl
  · simp only [hn, false_and, decide_false]; rfl
  clear leaf bad
  let no : Nat → List Int := fun j => side W (l.take j) a false
  let ys : Nat → List Int := fun j => side W (l.take j) a true
  refine run_loop (fun j : Nat => ⟨17, [80, 81, 82], [ints W, ints C, ints l, .ptr 4 (ofL [I a, treeA n, treeA y, I w]) 0, .any, .any, .any, .any, .any, .any, .osl 0 (no j).length 1 0 (no j).length, .osl 1 (ys j).length 1 0 (ys j).length, .any, .any, .any, .any, .any],
    [(80, ints l), (81, I l.length), (82, I j)],
    [.row (no j).length (no j).length (slF I 0 (no j)), .row (ys j).length (ys j).length (slF I 0 (ys j))]⟩) (fun j => j ≤ l.length) (fun j => l.length - j) 0 (by omega)
    ((sub_adopt 10 1 (slF I 0 []) rfl).trans ((sub_adopt 11 1 (slF I 0 []) rfl).trans (sub_mk rfl ?_ ?_ ?_))) ?_
  · simp [subL, AS.put, ints, sl1, I, no, ys, side]
  · simp [subT, AS.put, look, ints, sl1, I]
  · simp [AS.put, no, ys, side]
  intro j hj next
  have w1 := wj j (by omega)
  have hn : (no j).length ≤ j := Nat.le_trans (side_le _ _ _ _) (List.length_take_le _ _)
  have hy : (ys j).length ≤ j := Nat.le_trans (side_le _ _ _ _) (List.length_take_le _ _)
  refine vc_soundN 1000 ?_
  simp only [w1, tb_eq, ↓wPre, wPost, List.getD_cons_succ, List.getD_cons_zero, List.set_cons_succ, List.set_cons_zero, List.map_cons, List.map_nil, List.all_cons, List.all_nil, List.length_cons, List.length_nil, List.cons_append, List.nil_append, List.append_nil, List.getElem?_cons_succ, List.getElem?_cons_zero, List.replicate_succ, List.replicate_zero, List.contains_cons, List.contains_nil, List.elem_cons, List.elem_nil, Nat.zero_add, Nat.add_zero, Nat.zero_lt_succ, Int.toNat_zero, Nat.min_self, Nat.zero_min, Nat.min_zero, Nat.sub_zero, Nat.zero_mul, Int.le_refl, Nat.le_refl, Option.getD_none, Option.getD_some, Int.toNat_one, Nat.lt_irrefl, Nat.mul_one, Bool.false_eq_true, Bool.true_eq_false, decide_true, decide_false, decide_eq_true_eq, decide_eq_false_iff_not, Bool.not_true, Bool.not_false, Bool.not_eq_true', Bool.not_eq_false', Bool.and_true, Bool.true_and, Bool.false_and, beq_self_eq_true, ite_true, ite_false, Option.map_some, Option.map_none, Option.isSome_some, true_and, and_true, false_and, and_false, not_true_eq_false, not_false_eq_true, false_implies, true_implies, implies_true, eq_self, ne_eq, or_true, true_or, or_false, false_or, Bool.or_false, Bool.or_true, Bool.false_or, Bool.true_or, Int.toNat_natCast, Int.natCast_nonneg, Int.ofNat_lt, Int.ofNat_le, Int.ofNat_inj, Int.ofNat_zero, ↓reduceIte, reduceIte, replT, filtT, countL, cls, look, aload, astore, aindex, afieldA, afield, aidx, apart, aslice, ibound, acap, azapp, abuildS, abuild, aFill, setL, zrep, asrc, aappend, aconv, alen, amake, amkmap, alookup, aupdate, aalloc, abox, newO, place, rd, Nat.reducePow, AV.isPtr, Nat.reduceLT, Nat.reduceLeDiff, Nat.reduceEqDiff, Nat.reduceAdd, Nat.reduceMul, Nat.reduceSub, Nat.reduceBEq, updL, cellsFrom, reduceCtorEq, ints, bools, intss, sl1, wFacts]
  refine ⟨fun h => ?_, fun h => ?_⟩
  · obtain ⟨h4, h5⟩ := hs _ (getD_mem (d := 0) h)
    refine ⟨h, h, ⟨h4, h5⟩, by omega, by omega, fun ht => ⟨by omega, next (j + 1) _ (by omega) (by omega) (sub_mk rfl ?_ ?_ ?_)⟩, fun ht => ⟨by omega, next (j + 1) _ (by omega) (by omega) (sub_mk rfl ?_ ?_ ?_)⟩⟩
    all_goals first
      | (simp [subT, look, ints, sl1, I]; done)
      | simp [-List.getD_eq_getElem?_getD, no, ys, side_take W l a _ j h, ht, subL, ints, sl1, I]
  obtain rfl : j = l.length := by omega
  have eno : no l.length = side W l a false := by simp [no]
  have eys : ys l.length = side W l a true := by simp [ys]
  have flat : ∀ (c : Int) (b : Bool), Flat (.tup [I c, .bool b]) := fun c b => flat_tup (by simp [flat_int, flat_bool, I])
  refine call_lent ih1 rfl ⟨(settled_ints _).sees _, (settled_ints _).sees _, sees_intsE rfl rfl (by rw [eno]) (by rw [eno]) (by rw [eno]; exact Nat.le_refl _), ?_, trivial⟩ (flat _ _) ?_
  · rw [loose_tree']; exact (settled_tree n).sees _
  simp only [↓wPre, wPost, List.getD_cons_succ, List.getD_cons_zero, List.set_cons_succ, List.set_cons_zero, List.map_cons, List.map_nil, List.all_cons, List.all_nil, List.length_cons, List.length_nil, List.cons_append, List.nil_append, List.append_nil, List.getElem?_cons_succ, List.getElem?_cons_zero, List.replicate_succ, List.replicate_zero, List.contains_cons, List.contains_nil, List.elem_cons, List.elem_nil, Nat.zero_add, Nat.add_zero, Nat.zero_lt_succ, Int.toNat_zero, Nat.min_self, Nat.zero_min, Nat.min_zero, Nat.sub_zero, Nat.zero_mul, Int.le_refl, Nat.le_refl, Option.getD_none, Option.getD_some, Int.toNat_one, Nat.lt_irrefl, Nat.mul_one, Bool.false_eq_true, Bool.true_eq_false, decide_true, decide_false, decide_eq_true_eq, decide_eq_false_iff_not, Bool.not_true, Bool.not_false, Bool.not_eq_true', Bool.not_eq_false', Bool.and_true, Bool.true_and, Bool.false_and, beq_self_eq_true, ite_true, ite_false, Option.map_some, Option.map_none, Option.isSome_some, true_and, and_true, false_and, and_false, not_true_eq_false, not_false_eq_true, false_implies, true_implies, implies_true, eq_self, ne_eq, or_true, true_or, or_false, false_or, Bool.or_false, Bool.or_true, Bool.false_or, Bool.true_or, Int.toNat_natCast, Int.natCast_nonneg, Int.ofNat_lt, Int.ofNat_le, Int.ofNat_inj, Int.ofNat_zero, ↓reduceIte, reduceIte, replT, filtT, countL, cls, look, aload, astore, aindex, afieldA, afield, aidx, apart, aslice, ibound, acap, azapp, abuildS, abuild, aFill, setL, zrep, asrc, aappend, aconv, alen, amake, amkmap, alookup, aupdate, aalloc, abox, newO, place, rd, Nat.reducePow, AV.isPtr, Nat.reduceLT, Nat.reduceLeDiff, Nat.reduceEqDiff, Nat.reduceAdd, Nat.reduceMul, Nat.reduceSub, Nat.reduceBEq, updL, cellsFrom, reduceCtorEq, ints, bools, intss, sl1, wFacts]
  have hrec : flw2 W C l (.node a n y w) = if (flw2 W C (side W l a false) n).2 = false then (0, false) else
    (IntKind.i64.wrap (C.getD a.toNat 0 + (if (flw2 W C (side W l a false) n).1 < (flw2 W C (side W l a true) y).1 then (flw2 W C (side W l a true) y).1 else (flw2 W C (side W l a false) n).1)), (flw2 W C (side W l a true) y).2) := by
    rw [flw2, if_neg (by omega), if_neg ha, if_neg (by omega)]
  refine guardP_intron (fun hf => ret (x := (0, false)) (by rw [hrec, if_pos hf]) rfl rfl) (fun hf => ?_)
  refine call_lent ih2 rfl ⟨(settled_ints _).sees _, (settled_ints _).sees _, sees_intsE rfl rfl (by rw [eys]) (by rw [eys]) (by rw [eys]; exact Nat.le_refl _), ?_, trivial⟩ (flat _ _) ?_
  · rw [loose_tree']; exact (settled_tree y).sees _
  simp only [↓wPre, wPost, List.getD_cons_succ, List.getD_cons_zero, List.set_cons_succ, List.set_cons_zero, List.map_cons, List.map_nil, List.all_cons, List.all_nil, List.length_cons, List.length_nil, List.cons_append, List.nil_append, List.append_nil, List.getElem?_cons_succ, List.getElem?_cons_zero, List.replicate_succ, List.replicate_zero, List.contains_cons, List.contains_nil, List.elem_cons, List.elem_nil, Nat.zero_add, Nat.add_zero, Nat.zero_lt_succ, Int.toNat_zero, Nat.min_self, Nat.zero_min, Nat.min_zero, Nat.sub_zero, Nat.zero_mul, Int.le_refl, Nat.le_refl, Option.getD_none, Option.getD_some, Int.toNat_one, Nat.lt_irrefl, Nat.mul_one, Bool.false_eq_true, Bool.true_eq_false, decide_true, decide_false, decide_eq_true_eq, decide_eq_false_iff_not, Bool.not_true, Bool.not_false, Bool.not_eq_true', Bool.not_eq_false', Bool.and_true, Bool.true_and, Bool.false_and, beq_self_eq_true, ite_true, ite_false, Option.map_some, Option.map_none, Option.isSome_some, true_and, and_true, false_and, and_false, not_true_eq_false, not_false_eq_true, false_implies, true_implies, implies_true, eq_self, ne_eq, or_true, true_or, or_false, false_or, Bool.or_false, Bool.or_true, Bool.false_or, Bool.true_or, Int.toNat_natCast, Int.natCast_nonneg, Int.ofNat_lt, Int.ofNat_le, Int.ofNat_inj, Int.ofNat_zero, ↓reduceIte, reduceIte, replT, filtT, countL, cls, look, aload, astore, aindex, afieldA, afield, aidx, apart, aslice, ibound, acap, azapp, abuildS, abuild, aFill, setL, zrep, asrc, aappend, aconv, alen, amake, amkmap, alookup, aupdate, aalloc, abox, newO, place, rd, Nat.reducePow, AV.isPtr, Nat.reduceLT, Nat.reduceLeDiff, Nat.reduceEqDiff, Nat.reduceAdd, Nat.reduceMul, Nat.reduceSub, Nat.reduceBEq, updL, cellsFrom, reduceCtorEq, ints, bools, intss, sl1, wFacts]
  refine ⟨by omega, by omega, ret (hrec.trans (if_neg (by rw [hf]; simp))) rfl rfl⟩

theorem follow_fn (W C : List Int) (hW : W.length < 1048576) (hC : C.length < 1048576) : ∀ (t : Tr) (l : List Int), (∀ i ∈ l, 0 ≤ i ∧ i < W.length) → l.length < 1048576 →
    Fn Try.prog 40 [ints W, ints C, ints l, treeA t] (.tup [I (flw2 W C l t).1, .bool (flw2 W C l t).2]) := by
  intro t
  induction t with
  | nil =>
    intro l hs hl
    unfold treeA
    refine Fn.intro (fn := Try.f40) Try.call40 Try.func40 rfl mixed 17 [80, 81, 82] [] [] (by kernel_rfl) (Nat.le_of_ble_eq_true rfl) (by simp [settled_ints, settled_I, settled_fn0, settled_intss, settled_bool, settled_tree, settled_nil]) (vc_soundN 1000 ?_); simp (config := { maxSteps := 2000000 }) only [AS.start, ↓wPre, wPost, List.getD_cons_succ, List.getD_cons_zero, List.set_cons_succ, List.set_cons_zero, List.map_cons, List.map_nil, List.all_cons, List.all_nil, List.length_cons, List.length_nil, List.cons_append, List.nil_append, List.append_nil, List.getElem?_cons_succ, List.getElem?_cons_zero, List.replicate_succ, List.replicate_zero, List.contains_cons, List.contains_nil, List.elem_cons, List.elem_nil, Nat.zero_add, Nat.add_zero, Nat.zero_lt_succ, Int.toNat_zero, Nat.min_self, Nat.zero_min, Nat.min_zero, Nat.sub_zero, Nat.zero_mul, Int.le_refl, Nat.le_refl, Option.getD_none, Option.getD_some, Int.toNat_one, Nat.lt_irrefl, Nat.mul_one, Bool.false_eq_true, Bool.true_eq_false, decide_true, decide_false, decide_eq_true_eq, decide_eq_false_iff_not, Bool.not_true, Bool.not_false, Bool.not_eq_true', Bool.not_eq_false', Bool.and_true, Bool.true_and, Bool.false_and, beq_self_eq_true, ite_true, ite_false, Option.map_some, Option.map_none, Option.isSome_some, true_and, and_true, false_and, and_false, not_true_eq_false, not_false_eq_true, false_implies, true_implies, implies_true, eq_self, ne_eq, or_true, true_or, or_false, false_or, Bool.or_false, Bool.or_true, Bool.false_or, Bool.true_or, Int.toNat_natCast, Int.natCast_nonneg, Int.ofNat_lt, Int.ofNat_le, Int.ofNat_inj, Int.ofNat_zero, ↓reduceIte, reduceIte, replT, filtT, countL, cls, look, aload, astore, aindex, afieldA, afield, aidx, apart, aslice, ibound, acap, azapp, abuildS, abuild, aFill, setL, zrep, asrc, aappend, aconv, alen, amake, amkmap, alookup, aupdate, aalloc, abox, newO, place, rd, Nat.reducePow, AV.isPtr, Nat.reduceLT, Nat.reduceLeDiff, Nat.reduceEqDiff, Nat.reduceAdd, Nat.reduceMul, Nat.reduceSub, Nat.reduceBEq, updL, cellsFrom, reduceCtorEq, ints, bools, intss, sl1, wFacts]
    exact ret2E rfl rfl rfl (settled_I _) (settled_bool _) rfl rfl
  | node a n y w ihn ihy =>
    intro l hs hl
    exact follow_step W C hW hC a n y w l hs hl (ihn _ (fun i hi => hs i (side_mem hi)) (Nat.lt_of_le_of_lt (side_le _ _ _ _) hl)) (ihy _ (fun i hi => hs i (side_mem hi)) (Nat.lt_of_le_of_lt (side_le _ _ _ _) hl))

/-- What it comes to, without the machine's bounds. -/
def flw (W C : List Int) : List Int → Tr → Option Int
  | _, .nil => none
  | l, .node a n y w => if l.length = 0 then none else if a = -1 then (if n = .nil ∧ y = .nil ∧ l.length = 1 ∧ l.getD 0 0 = w then some 0 else none) else if a < 0 ∨ C.length ≤ a ∨ w ≠ -1 then none else
    match flw W C (side W l a false) n, flw W C (side W l a true) y with
    | some x, some z => some (C.getD a.toNat 0 + max x z)
    | _, _ => none
theorem flw_bound (W C : List Int) (hc : ¬ anyBad C) : ∀ (t : Tr) (l : List Int) (c : Int), flw W C l t = some c → 0 ≤ c ∧ c ≤ 1024 * ((l.length : Int) - 1) ∧ 0 < l.length := by
  intro t
  induction t with
  | nil => intro l c h; simp [flw] at h
  | node a n y w ihn ihy =>
    intro l c h
    rw [flw] at h
    split at h
    · cases h
    rename_i h0
    split at h
    · split at h
      · rename_i h1
        cases h; omega
      · cases h
    · split at h
      · cases h
      · rename_i h1 h2
        split at h
        · rename_i x z e1 e2
          cases h
          have b1 := ihn _ _ e1
          have b2 := ihy _ _ e2
          have hsl := side_length W l a
          have hg : ¬ (C.getD a.toNat 0 < 1 ∨ 1024 < C.getD a.toNat 0) := fun hb => hc (anyBad_mem a.toNat (by omega) hb)
          omega
        · cases h
theorem flw_eq (W C : List Int) (hc : ¬ anyBad C) : ∀ (t : Tr) (l : List Int), l.length < 1048576 → (flw2 W C l t).2 = (flw W C l t).isSome ∧ (∀ c, flw W C l t = some c → (flw2 W C l t).1 = c) := by
  intro t
  induction t with
  | nil => intro l _; simp [flw2, flw]
  | node a n y w ihn ihy =>
    intro l hl
    have hl1 : (side W l a false).length < 1048576 := Nat.lt_of_le_of_lt (side_le _ _ _ _) hl
    have hl2 : (side W l a true).length < 1048576 := Nat.lt_of_le_of_lt (side_le _ _ _ _) hl
    obtain ⟨n1, n2⟩ := ihn _ hl1
    obtain ⟨y1, y2⟩ := ihy _ hl2
    rw [flw2, flw]
    split
    · simp
    · split
      · split
        · rename_i h; simp only [decide_eq_true h]; simp
        · rename_i h; simp only [decide_eq_false h]; simp
      · split
        · simp
        · rename_i h1 h2 h3
          rw [n1, y1]
          cases e1 : flw W C (side W l a false) n with
          | none => simp
          | some x =>
            cases e2 : flw W C (side W l a true) y with
            | none => simp
            | some z =>
              have b1 := flw_bound W C hc _ _ _ e1
              have b2 := flw_bound W C hc _ _ _ e2
              have hg : ¬ (C.getD a.toNat 0 < 1 ∨ 1024 < C.getD a.toNat 0) := fun hb => hc (anyBad_mem a.toNat (by omega) hb)
              rw [n2 x e1, y2 z e2]
              have hm : (if x < z then z else x) = max x z := by omega
              have hw : IntKind.i64.wrap (C.getD a.toNat 0 + max x z) = C.getD a.toNat 0 + max x z := by rw [IntKind.wrap_i64]; omega
              simp [-List.getD_eq_getElem?_getD, hm, hw]
end
end Go.Ab.Q
