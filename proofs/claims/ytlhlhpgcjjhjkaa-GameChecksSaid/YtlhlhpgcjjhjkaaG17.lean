/- Contracts of functions of this chapter, for every argument that fits, and what they need. -/
import Derived.Test.YtlhlhpgcjjhjkaaG16
set_option linter.unusedSimpArgs false
set_option linter.unusedVariables false
namespace Go.Ab.G
open Go Go.RowKit Go.Proofs
noncomputable section
set_option maxRecDepth 10000
set_option maxHeartbeats 2000000
set_option linter.unusedSimpArgs false
set_option linter.unusedVariables false
set_option pp.maxSteps 100000
open Classical

theorem sees_intssF {l : List (List Int)} {H : List AO} {a : AV} {id ver n m : Nat} {f : Nat → AV} (ha : a = .osl id ver 1 0 m) (ho : H[id]? = some (.row ver n f)) (hm : m = l.length) (hn : l.length ≤ n)
    (hg : ∀ j, j < l.length → Sees H (f j) (ints (l.getD j []))) : Sees H a (intss l) := by
  subst ha; subst hm
  exact sees_osl (.inl ho) (by omega) (by omega) fun j hj => by rw [Nat.zero_add]; exact hg j hj
def zeros (n : Nat) : List Int := List.replicate n 0
theorem zeros_len (n : Nat) : (zeros n).length = n := List.length_replicate
theorem zeros_at (n j : Nat) : (zeros n).getD j 0 = 0 := by
  unfold zeros
  rw [List.getD_eq_getElem?_getD]
  by_cases h : j < n
  · rw [List.getElem?_replicate, if_pos h]; rfl
  · rw [List.getElem?_eq_none (by rw [List.length_replicate]; omega)]; rfl
/-! ### A game with one thing changed -/
def bentG (g : Gm) (how at_ by_ : Int) : Gm :=
  let k := (aroundF at_ g.n).toNat
  if aroundF how 7 = 0 then { g with own := g.own.set k by_ }
  else if aroundF how 7 = 1 then { g with nxt := g.nxt.set k (nx g k ++ [by_]) }
  else if aroundF how 7 = 2 then { g with goal := g.goal ++ [by_] }
  else if aroundF how 7 = 3 then { g with bad := g.bad ++ [by_] }
  else if aroundF how 7 = 4 then { g with nxt := g.nxt.take k }
  else if aroundF how 7 = 5 then { g with own := [] }
  else { g with own := zeros 4097 }

theorem bent_fn (g : Gm) (hs : smallG g) (hn : g.n ≠ 0) (hl : g.nxt.length = g.n) (how at_ by_ : Int) (h1 : in64 how) (h2 : in64 at_) (h3 : in64 by_) : Fn Try.prog 10 [gmA g, I how, I at_, I by_] (gmA (bentG g how at_ by_)) := by
  have hs' := hs
  obtain ⟨s1, s2, s3, s4, s5⟩ := hs
  obtain ⟨V, hV⟩ : ∃ V, V = gmA (bentG g how at_ by_) := ⟨_, rfl⟩
  rw [← hV]
  refine Fn.intro (fn := Try.f10) Try.call10 Try.func10 rfl mixed 12 [36] [3, 8, 9005, 9008] [] (by kernel_rfl) (Nat.le_of_ble_eq_true rfl) (by simp [settled_ints, settled_I, settled_fn0, settled_intss, settled_bool, settled_nil, settled_gmA]) (vc_soundN 30 ?_); simp (config := { maxSteps := 2000000 }) only [AS.start, ↓wPre, wPost, wFast, Nat.zero_add, Nat.add_zero, Nat.zero_lt_succ, Nat.min_self, Nat.zero_min, Nat.min_zero, Nat.sub_zero, Nat.zero_mul, Int.le_refl, Nat.le_refl, Nat.lt_irrefl, Nat.mul_one, Bool.false_eq_true, Bool.true_eq_false, decide_true, decide_false, decide_eq_true_eq, decide_eq_false_iff_not, Bool.not_true, Bool.not_false, Bool.not_eq_true', Bool.not_eq_false', Bool.and_true, Bool.true_and, Bool.false_and, beq_self_eq_true, ite_true, ite_false, true_and, and_true, false_and, and_false, not_true_eq_false, not_false_eq_true, false_implies, true_implies, implies_true, eq_self, ne_eq, or_true, true_or, or_false, false_or, Bool.or_false, Bool.or_true, Bool.false_or, Bool.true_or, Int.natCast_nonneg, Int.ofNat_lt, Int.ofNat_le, Int.ofNat_inj, Int.ofNat_zero, ↓reduceIte, reduceIte, Nat.reducePow, Nat.reduceLT, Nat.reduceLeDiff, Nat.reduceEqDiff, Nat.reduceAdd, Nat.reduceMul, Nat.reduceSub, Nat.reduceBEq, reduceCtorEq, sl1, wFacts, gmA]
  refine call_fn (around_fn at_ g.own.length h2 (by unfold Gm.n at hn; omega)) rfl ?_
  have hk := aroundF_bound at_ g.own.length (by unfold Gm.n at hn; omega)
  obtain ⟨k, hkk⟩ : ∃ k : Nat, aroundF at_ g.own.length = k := ⟨(aroundF at_ g.own.length).toNat, by omega⟩
  simp only [hkk, gmL, ↓wPre, wPost, wFast, Nat.zero_add, Nat.add_zero, Nat.zero_lt_succ, Nat.min_self, Nat.zero_min, Nat.min_zero, Nat.sub_zero, Nat.zero_mul, Int.le_refl, Nat.le_refl, Nat.lt_irrefl, Nat.mul_one, Bool.false_eq_true, Bool.true_eq_false, decide_true, decide_false, decide_eq_true_eq, decide_eq_false_iff_not, Bool.not_true, Bool.not_false, Bool.not_eq_true', Bool.not_eq_false', Bool.and_true, Bool.true_and, Bool.false_and, beq_self_eq_true, ite_true, ite_false, true_and, and_true, false_and, and_false, not_true_eq_false, not_false_eq_true, false_implies, true_implies, implies_true, eq_self, ne_eq, or_true, true_or, or_false, false_or, Bool.or_false, Bool.or_true, Bool.false_or, Bool.true_or, Int.natCast_nonneg, Int.ofNat_lt, Int.ofNat_le, Int.ofNat_inj, Int.ofNat_zero, ↓reduceIte, reduceIte, Nat.reducePow, Nat.reduceLT, Nat.reduceLeDiff, Nat.reduceEqDiff, Nat.reduceAdd, Nat.reduceMul, Nat.reduceSub, Nat.reduceBEq, reduceCtorEq, sl1, wFacts, gmA]
  refine Run.sub (s' := ⟨12, [36], [.any, I how, I at_, I by_, .ref 0 0 0, .any, .any, .any, .ref 1 0 0, I g.own.length, I k, .any], [], [.con 0 4 (ofL (gmL g)), .row 0 4 (ofL [emptS, emptS, emptS, emptS])]⟩) ?_
    ((sub_con 0 rfl).trans (sub_mk rfl (by simp [subL, I]) (by simp [subT]) (by simp [gmL, emptS, ints, intss, sl1])))
  have hr := aroundF_bound how 7 (by omega)
  have hkn : k < g.own.length := by omega
  have hkl : k < g.nxt.length := by rw [hl]; exact hkn
  have hnx : g.nxt.getD k [] = nx g k := rfl
  have hkt : (aroundF at_ g.n).toNat = k := by show (aroundF at_ g.own.length).toNat = k; omega
  unfold bentG at hV
  rw [hkt] at hV
  have e1 : ∀ (l : List Int) j, j < l.length → appF 0 (ofL []) l.length (slF I 0 l) j = I (l.getD j 0) := fun l j hj => by
    unfold appF
    rw [if_neg (by omega), if_pos (by omega)]; rfl
  have e2 : ∀ (l : List (List Int)) j, j < l.length → appF 0 (ofL []) l.length (slF ints [] l) j = ints (l.getD j []) := fun l j hj => by
    unfold appF
    rw [if_neg (by omega), if_pos (by omega)]; rfl
  have c1 : ∀ {H : List AO} {id : Nat} (l : List Int), H[id]? = some (.row 0 l.length (appF 0 (ofL []) l.length (slF I 0 l))) → Sees H (.osl id 0 1 0 l.length) (ints l) := fun l ho => sees_intsF rfl ho rfl (Nat.le_refl _) (e1 l)
  have c2 : ∀ {H : List AO} {id : Nat} (l : List (List Int)), H[id]? = some (.row 0 l.length (appF 0 (ofL []) l.length (slF ints [] l))) → Sees H (.osl id 0 1 0 l.length) (intss l) := fun l ho => sees_intssF rfl ho rfl (Nat.le_refl _) (fun j hj => by rw [e2 l j hj]; exact (settled_ints _).sees _)
  have c3 : ∀ (l : List Int) (x : Int) j, j < (l ++ [x]).length → appF l.length (appF 0 (ofL []) l.length (slF I 0 l)) 1 (ofL [.int .i64 x]) j = I ((l ++ [x]).getD j 0) := fun l x j hj => by
    simp only [List.length_append, List.length_cons, List.length_nil] at hj
    by_cases e : j < l.length
    · unfold appF
      rw [if_pos e, if_neg (by omega), if_pos (by omega)]
      simp [slF, List.getD_eq_getElem?_getD, List.getElem?_append_left e]
    · obtain rfl : j = l.length := by omega
      unfold appF
      rw [if_neg (by omega), if_pos (by omega)]
      simp [List.getD_eq_getElem?_getD, ofL, I]
  by_cases r1 : aroundF how 7 = 1
  · rw [r1] at hV
    refine vc_soundN 65 ?_
    simp (config := { maxSteps := 2000000 }) only [hnx, gmL, emptS, ↓wPre, wPost, wFast, Nat.zero_add, Nat.add_zero, Nat.zero_lt_succ, Nat.min_self, Nat.zero_min, Nat.min_zero, Nat.sub_zero, Nat.zero_mul, Int.le_refl, Nat.le_refl, Nat.lt_irrefl, Nat.mul_one, Bool.false_eq_true, Bool.true_eq_false, decide_true, decide_false, decide_eq_true_eq, decide_eq_false_iff_not, Bool.not_true, Bool.not_false, Bool.not_eq_true', Bool.not_eq_false', Bool.and_true, Bool.true_and, Bool.false_and, beq_self_eq_true, ite_true, ite_false, true_and, and_true, false_and, and_false, not_true_eq_false, not_false_eq_true, false_implies, true_implies, implies_true, eq_self, ne_eq, or_true, true_or, or_false, false_or, Bool.or_false, Bool.or_true, Bool.false_or, Bool.true_or, Int.natCast_nonneg, Int.ofNat_lt, Int.ofNat_le, Int.ofNat_inj, Int.ofNat_zero, ↓reduceIte, reduceIte, Nat.reducePow, Nat.reduceLT, Nat.reduceLeDiff, Nat.reduceEqDiff, Nat.reduceAdd, Nat.reduceMul, Nat.reduceSub, Nat.reduceBEq, reduceCtorEq, sl1, wFacts, gmA]
    refine ⟨⟨by omega, by omega⟩, ⟨by omega, by omega⟩, ⟨by omega, by omega⟩, ⟨by omega, by omega⟩, call_fn (around_fn how 7 h1 (by omega)) rfl ?_⟩
    simp (config := { maxSteps := 2000000 }) only [hnx, r1, gmL, Int.reduceEq, ↓wPre, wPost, wFast, Nat.zero_add, Nat.add_zero, Nat.zero_lt_succ, Nat.min_self, Nat.zero_min, Nat.min_zero, Nat.sub_zero, Nat.zero_mul, Int.le_refl, Nat.le_refl, Nat.lt_irrefl, Nat.mul_one, Bool.false_eq_true, Bool.true_eq_false, decide_true, decide_false, decide_eq_true_eq, decide_eq_false_iff_not, Bool.not_true, Bool.not_false, Bool.not_eq_true', Bool.not_eq_false', Bool.and_true, Bool.true_and, Bool.false_and, beq_self_eq_true, ite_true, ite_false, true_and, and_true, false_and, and_false, not_true_eq_false, not_false_eq_true, false_implies, true_implies, implies_true, eq_self, ne_eq, or_true, true_or, or_false, false_or, Bool.or_false, Bool.or_true, Bool.false_or, Bool.true_or, Int.natCast_nonneg, Int.ofNat_lt, Int.ofNat_le, Int.ofNat_inj, Int.ofNat_zero, ↓reduceIte, reduceIte, Nat.reducePow, Nat.reduceLT, Nat.reduceLeDiff, Nat.reduceEqDiff, Nat.reduceAdd, Nat.reduceMul, Nat.reduceSub, Nat.reduceBEq, reduceCtorEq, sl1, wFacts, gmA]
    simp only [Int.reduceEq, if_true, if_false] at hV
    refine Run.sub (s' := ⟨12, [36], [.any, I how, I at_, I by_, .ref 0 0 0, .any, .any, .any, .ref 1 0 0, I g.own.length, I k, .ref 2 0 0], [], [.con 0 4 (ofL (gmL g)), .row 0 4 (ofL [emptS, emptS, emptS, emptS]),
        .con 0 4 (ofL [.osl 3 0 1 0 g.own.length, .osl 4 0 1 0 g.nxt.length, .osl 5 0 1 0 g.goal.length, .osl 6 0 1 0 g.bad.length]),
        .row 0 g.own.length (appF 0 (ofL []) g.own.length (slF I 0 g.own)), .row 0 g.nxt.length (appF 0 (ofL []) g.nxt.length (slF ints [] g.nxt)), .row 0 g.goal.length (appF 0 (ofL []) g.goal.length (slF I 0 g.goal)), .row 0 g.bad.length (appF 0 (ofL []) g.bad.length (slF I 0 g.bad))]⟩) ?_
      ((sub_con 2 rfl).trans (sub_mk rfl (by simp [subL, I]) (by simp [subT]) (by simp [gmL, emptS, ints, intss, sl1])))
    refine vc_soundN 1000 ?_
    have e2k := e2 g.nxt k hkl
    simp (config := { maxSteps := 2000000 }) only [hnx, r1, gmL, emptS, e2k, Int.reduceEq, ↓wPre, wPost, wFast, Nat.zero_add, Nat.add_zero, Nat.zero_lt_succ, Nat.min_self, Nat.zero_min, Nat.min_zero, Nat.sub_zero, Nat.zero_mul, Int.le_refl, Nat.le_refl, Nat.lt_irrefl, Nat.mul_one, Bool.false_eq_true, Bool.true_eq_false, decide_true, decide_false, decide_eq_true_eq, decide_eq_false_iff_not, Bool.not_true, Bool.not_false, Bool.not_eq_true', Bool.not_eq_false', Bool.and_true, Bool.true_and, Bool.false_and, beq_self_eq_true, ite_true, ite_false, true_and, and_true, false_and, and_false, not_true_eq_false, not_false_eq_true, false_implies, true_implies, implies_true, eq_self, ne_eq, or_true, true_or, or_false, false_or, Bool.or_false, Bool.or_true, Bool.false_or, Bool.true_or, Int.natCast_nonneg, Int.ofNat_lt, Int.ofNat_le, Int.ofNat_inj, Int.ofNat_zero, ↓reduceIte, reduceIte, Nat.reducePow, Nat.reduceLT, Nat.reduceLeDiff, Nat.reduceEqDiff, Nat.reduceAdd, Nat.reduceMul, Nat.reduceSub, Nat.reduceBEq, reduceCtorEq, sl1, wFacts, gmA]
    have hnl5 : (nx g k).length < 1048576 := by rw [← hnx]; exact s5 _ (getD_mem hkl)
    refine ⟨by omega, by omega, ⟨by omega, by omega⟩, ⟨by omega, by omega⟩, by omega, by omega, ?_⟩
    refine retCellP (v := .agg [.osl 3 0 1 0 g.own.length, .osl 4 0 1 0 g.nxt.length, .osl 5 0 1 0 g.goal.length, .osl 6 0 1 0 g.bad.length]) rfl (by simp [AS.get, aload, ldk25, rd, cellsFrom, ofL, oif_true]) ?_
    rw [hV]
    refine sees_agg ⟨c1 _ rfl, sees_intssF rfl rfl (by simp) (by simp) (fun j hj => ?_), c1 _ rfl, c1 _ rfl, trivial⟩
    simp only [List.length_set] at hj
    unfold upd
    by_cases hjk : j = k
    · subst hjk
      rw [if_pos rfl]
      have e : (g.nxt.set j (nx g j ++ [by_])).getD j [] = nx g j ++ [by_] := by simp [List.getD_eq_getElem?_getD, hkl]
      rw [e]
      exact sees_intsF rfl rfl (by simp) (by simp) (c3 _ _)
    · rw [if_neg hjk, e2 _ j hj]
      have e : (g.nxt.set k (nx g k ++ [by_])).getD j [] = g.nxt.getD j [] := by simp [List.getD_eq_getElem?_getD, List.getElem?_set_ne (Ne.symm hjk)]
      rw [e]
      exact (settled_ints _).sees _
  refine vc_soundN 1000 ?_
  simp (config := { maxSteps := 2000000 }) only [hnx, gmL, emptS, ↓wPre, wPost, wFast, Nat.zero_add, Nat.add_zero, Nat.zero_lt_succ, Nat.min_self, Nat.zero_min, Nat.min_zero, Nat.sub_zero, Nat.zero_mul, Int.le_refl, Nat.le_refl, Nat.lt_irrefl, Nat.mul_one, Bool.false_eq_true, Bool.true_eq_false, decide_true, decide_false, decide_eq_true_eq, decide_eq_false_iff_not, Bool.not_true, Bool.not_false, Bool.not_eq_true', Bool.not_eq_false', Bool.and_true, Bool.true_and, Bool.false_and, beq_self_eq_true, ite_true, ite_false, true_and, and_true, false_and, and_false, not_true_eq_false, not_false_eq_true, false_implies, true_implies, implies_true, eq_self, ne_eq, or_true, true_or, or_false, false_or, Bool.or_false, Bool.or_true, Bool.false_or, Bool.true_or, Int.natCast_nonneg, Int.ofNat_lt, Int.ofNat_le, Int.ofNat_inj, Int.ofNat_zero, ↓reduceIte, reduceIte, Nat.reducePow, Nat.reduceLT, Nat.reduceLeDiff, Nat.reduceEqDiff, Nat.reduceAdd, Nat.reduceMul, Nat.reduceSub, Nat.reduceBEq, reduceCtorEq, sl1, wFacts, gmA]
  refine ⟨⟨by omega, by omega⟩, ⟨by omega, by omega⟩, ⟨by omega, by omega⟩, ⟨by omega, by omega⟩, call_fn (around_fn how 7 h1 (by omega)) rfl ?_⟩
  have rr : aroundF how 7 = 0 ∨ aroundF how 7 = 2 ∨ aroundF how 7 = 3 ∨ aroundF how 7 = 4 ∨ aroundF how 7 = 5 ∨ aroundF how 7 = 6 := by omega
  rcases rr with r | r | r | r | r | r
  all_goals
    rw [r] at hV
    simp only [Int.reduceEq, if_true, if_false] at hV
    simp (config := { maxSteps := 2000000 }) only [hnx, r, gmL, Int.reduceEq, ↓wPre, wPost, wFast, Nat.zero_add, Nat.add_zero, Nat.zero_lt_succ, Nat.min_self, Nat.zero_min, Nat.min_zero, Nat.sub_zero, Nat.zero_mul, Int.le_refl, Nat.le_refl, Nat.lt_irrefl, Nat.mul_one, Bool.false_eq_true, Bool.true_eq_false, decide_true, decide_false, decide_eq_true_eq, decide_eq_false_iff_not, Bool.not_true, Bool.not_false, Bool.not_eq_true', Bool.not_eq_false', Bool.and_true, Bool.true_and, Bool.false_and, beq_self_eq_true, ite_true, ite_false, true_and, and_true, false_and, and_false, not_true_eq_false, not_false_eq_true, false_implies, true_implies, implies_true, eq_self, ne_eq, or_true, true_or, or_false, false_or, Bool.or_false, Bool.or_true, Bool.false_or, Bool.true_or, Int.natCast_nonneg, Int.ofNat_lt, Int.ofNat_le, Int.ofNat_inj, Int.ofNat_zero, ↓reduceIte, reduceIte, Nat.reducePow, Nat.reduceLT, Nat.reduceLeDiff, Nat.reduceEqDiff, Nat.reduceAdd, Nat.reduceMul, Nat.reduceSub, Nat.reduceBEq, reduceCtorEq, sl1, wFacts, gmA]
  · refine ⟨by omega, by omega, ?_⟩
    refine retCellP (v := .agg [.osl 3 0 1 0 g.own.length, .osl 4 0 1 0 g.nxt.length, .osl 5 0 1 0 g.goal.length, .osl 6 0 1 0 g.bad.length]) rfl (by simp [AS.get, aload, ldk25, rd, cellsFrom, ofL, oif_true]) ?_
    rw [hV]
    refine sees_agg ⟨sees_intsF rfl rfl (by simp) (by simp) (fun j hj => ?_), c2 _ rfl, c1 _ rfl, c1 _ rfl, trivial⟩
    simp only [List.length_set] at hj
    unfold upd
    by_cases hjk : j = k
    · rw [if_pos hjk, hjk]
      simp [List.getD_eq_getElem?_getD, I, hkn]
    · rw [if_neg hjk, e1 _ j hj]
      simp [List.getD_eq_getElem?_getD, List.getElem?_set_ne (Ne.symm hjk)]
  · refine ⟨⟨by omega, by omega⟩, ?_⟩
    refine retCellP (v := .agg [.osl 3 0 1 0 g.own.length, .osl 4 0 1 0 g.nxt.length, .osl 5 1 1 0 (g.goal.length + 1), .osl 6 0 1 0 g.bad.length]) rfl (by simp [AS.get, aload, ldk25, rd, cellsFrom, ofL, oif_true]) ?_
    rw [hV]
    exact sees_agg ⟨c1 _ rfl, c2 _ rfl, sees_intsF rfl rfl (by simp) (by simp) (c3 _ _), c1 _ rfl, trivial⟩
  · refine ⟨⟨by omega, by omega⟩, ?_⟩
    refine retCellP (v := .agg [.osl 3 0 1 0 g.own.length, .osl 4 0 1 0 g.nxt.length, .osl 5 0 1 0 g.goal.length, .osl 6 1 1 0 (g.bad.length + 1)]) rfl (by simp [AS.get, aload, ldk25, rd, cellsFrom, ofL, oif_true]) ?_
    rw [hV]
    exact sees_agg ⟨c1 _ rfl, c2 _ rfl, c1 _ rfl, sees_intsF rfl rfl (by simp) (by simp) (c3 _ _), trivial⟩
  · refine ⟨by omega, ?_⟩
    have wk : ((k : Int) - 0).toNat = k := by omega
    refine retCellP (v := .agg [.osl 3 0 1 0 g.own.length, .osl 4 0 1 0 k, .osl 5 0 1 0 g.goal.length, .osl 6 0 1 0 g.bad.length]) rfl (by simp [AS.get, aload, ldk25, rd, cellsFrom, ofL, oif_true, wk]) ?_
    rw [hV]
    refine sees_agg ⟨c1 _ rfl, sees_intssF rfl rfl (by simp; omega) (by simp; omega) (fun j hj => ?_), c1 _ rfl, c1 _ rfl, trivial⟩
    simp only [List.length_take] at hj
    rw [e2 _ j (by omega), getD_take _ _ _ _ (by omega)]
    exact (settled_ints _).sees _
  · refine retCellP (v := .agg [.sl 0 0 (fun _ => .any) false, .osl 4 0 1 0 g.nxt.length, .osl 5 0 1 0 g.goal.length, .osl 6 0 1 0 g.bad.length]) rfl (by simp [AS.get, aload, ldk25, rd, cellsFrom, ofL, oif_true]) ?_
    rw [hV]
    exact sees_agg ⟨sees_of_weak (settled_ints _) (weak_slW rfl (Nat.le_refl _) fun j hj => by exact absurd hj (Nat.not_lt_zero j)), c2 _ rfl, c1 _ rfl, c1 _ rfl, trivial⟩
  · refine ⟨by decide, ?_⟩
    refine retCellP (v := .agg [.osl 7 0 1 0 4097, .osl 4 0 1 0 g.nxt.length, .osl 5 0 1 0 g.goal.length, .osl 6 0 1 0 g.bad.length]) rfl (by simp [AS.get, aload, ldk25, rd, cellsFrom, ofL, oif_true]) ?_
    rw [hV]
    refine sees_agg ⟨sees_intsF rfl rfl (zeros_len 4097).symm (Nat.le_of_eq (zeros_len 4097)) (fun j hj => ?_), c2 _ rfl, c1 _ rfl, c1 _ rfl, trivial⟩
    rw [zeros_at]; rfl
end
end Go.Ab.G
