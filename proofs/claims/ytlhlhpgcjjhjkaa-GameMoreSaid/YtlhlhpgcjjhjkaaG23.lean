/- Contracts of functions of this chapter, for every argument that fits, and what they need. -/
import Derived.Test.YtlhlhpgcjjhjkaaG21
import Derived.Test.YtlhlhpgcjjhjkaaGE
set_option linter.unusedSimpArgs false
set_option linter.unusedVariables false
namespace Go.Ab.G
open Go Go.RowKit Go.Proofs
noncomputable section
set_option maxRecDepth 10000
set_option maxHeartbeats 2000000
set_option linter.unusedSimpArgs false
set_option linter.unusedVariables false
set_option pp.maxSteps 100000
open Classical

theorem gameMore_fn (l : List Int) (at_ to_ how_ by_ : Int) (ha : all64 l) (h1 : in64 at_) (h2 : in64 to_) (h3 : in64 how_) (h4 : in64 by_) :
    Fn Try.prog 8 [ints l, I at_, I to_, I how_, I by_] (.bool true) := by
  refine Fn.intro (fn := Try.f8) Try.call8 Try.func8 rfl mixed 27 [] [12] [] (by kernel_rfl) (Nat.le_of_ble_eq_true rfl) (by simp [settled_ints, settled_I, settled_fn0, settled_intss, settled_bool, settled_nil, settled_gmA]) (vc_soundN 1000 ?_); simp (config := { maxSteps := 2000000 }) only [AS.start, ↓wPre, wPost, wFast, Nat.zero_add, Nat.add_zero, Nat.zero_lt_succ, Nat.min_self, Nat.zero_min, Nat.min_zero, Nat.sub_zero, Nat.zero_mul, Int.le_refl, Nat.le_refl, Nat.lt_irrefl, Nat.mul_one, Bool.false_eq_true, Bool.true_eq_false, decide_true, decide_false, decide_eq_true_eq, decide_eq_false_iff_not, Bool.not_true, Bool.not_false, Bool.not_eq_true', Bool.not_eq_false', Bool.and_true, Bool.true_and, Bool.false_and, beq_self_eq_true, ite_true, ite_false, true_and, and_true, false_and, and_false, not_true_eq_false, not_false_eq_true, false_implies, true_implies, implies_true, eq_self, ne_eq, or_true, true_or, or_false, false_or, Bool.or_false, Bool.or_true, Bool.false_or, Bool.true_or, Int.natCast_nonneg, Int.ofNat_lt, Int.ofNat_le, Int.ofNat_inj, Int.ofNat_zero, ↓reduceIte, reduceIte, Nat.reducePow, Nat.reduceLT, Nat.reduceLeDiff, Nat.reduceEqDiff, Nat.reduceAdd, Nat.reduceMul, Nat.reduceSub, Nat.reduceBEq, reduceCtorEq, sl1, wFacts, gmA]
  refine call_fn (some_fn l ha) rfl ?_
  have hv := someG_ok l
  have hs := someG_small l
  have hnb := numS_bound l
  have hn := someG_n l
  generalize someG l = g at *
  have hn' : g.own.length = numS l := hn
  obtain ⟨hsz, hrest⟩ := valid_ok hv
  have hs' := hs
  obtain ⟨s1, s2, s3, s4, s5⟩ := hs'
  have hnl : g.nxt.length = g.own.length := hrest.1
  simp only [gmA, ↓wPre, wPost, wFast, Nat.zero_add, Nat.add_zero, Nat.zero_lt_succ, Nat.min_self, Nat.zero_min, Nat.min_zero, Nat.sub_zero, Nat.zero_mul, Int.le_refl, Nat.le_refl, Nat.lt_irrefl, Nat.mul_one, Bool.false_eq_true, Bool.true_eq_false, decide_true, decide_false, decide_eq_true_eq, decide_eq_false_iff_not, Bool.not_true, Bool.not_false, Bool.not_eq_true', Bool.not_eq_false', Bool.and_true, Bool.true_and, Bool.false_and, beq_self_eq_true, ite_true, ite_false, true_and, and_true, false_and, and_false, not_true_eq_false, not_false_eq_true, false_implies, true_implies, implies_true, eq_self, ne_eq, or_true, true_or, or_false, false_or, Bool.or_false, Bool.or_true, Bool.false_or, Bool.true_or, Int.natCast_nonneg, Int.ofNat_lt, Int.ofNat_le, Int.ofNat_inj, Int.ofNat_zero, ↓reduceIte, reduceIte, Nat.reducePow, Nat.reduceLT, Nat.reduceLeDiff, Nat.reduceEqDiff, Nat.reduceAdd, Nat.reduceMul, Nat.reduceSub, Nat.reduceBEq, reduceCtorEq, sl1, wFacts, gmA]
  refine call_fn (around_fn at_ g.own.length h1 (by omega)) rfl ?_
  have hk := aroundF_bound at_ g.own.length (by omega)
  obtain ⟨k, hkk⟩ : ∃ k : Nat, aroundF at_ g.own.length = k := ⟨(aroundF at_ g.own.length).toNat, by omega⟩
  simp only [gmA, hkk, ↓wPre, wPost, wFast, Nat.zero_add, Nat.add_zero, Nat.zero_lt_succ, Nat.min_self, Nat.zero_min, Nat.min_zero, Nat.sub_zero, Nat.zero_mul, Int.le_refl, Nat.le_refl, Nat.lt_irrefl, Nat.mul_one, Bool.false_eq_true, Bool.true_eq_false, decide_true, decide_false, decide_eq_true_eq, decide_eq_false_iff_not, Bool.not_true, Bool.not_false, Bool.not_eq_true', Bool.not_eq_false', Bool.and_true, Bool.true_and, Bool.false_and, beq_self_eq_true, ite_true, ite_false, true_and, and_true, false_and, and_false, not_true_eq_false, not_false_eq_true, false_implies, true_implies, implies_true, eq_self, ne_eq, or_true, true_or, or_false, false_or, Bool.or_false, Bool.or_true, Bool.false_or, Bool.true_or, Int.natCast_nonneg, Int.ofNat_lt, Int.ofNat_le, Int.ofNat_inj, Int.ofNat_zero, ↓reduceIte, reduceIte, Nat.reducePow, Nat.reduceLT, Nat.reduceLeDiff, Nat.reduceEqDiff, Nat.reduceAdd, Nat.reduceMul, Nat.reduceSub, Nat.reduceBEq, reduceCtorEq, sl1, wFacts, gmA]
  refine call_fn (around_fn to_ g.own.length h2 (by omega)) rfl ?_
  have hm := aroundF_bound to_ g.own.length (by omega)
  obtain ⟨m, hmm⟩ : ∃ m : Nat, aroundF to_ g.own.length = m := ⟨(aroundF to_ g.own.length).toNat, by omega⟩
  simp only [gmA, hmm, ↓wPre, wPost, wFast, Nat.zero_add, Nat.add_zero, Nat.zero_lt_succ, Nat.min_self, Nat.zero_min, Nat.min_zero, Nat.sub_zero, Nat.zero_mul, Int.le_refl, Nat.le_refl, Nat.lt_irrefl, Nat.mul_one, Bool.false_eq_true, Bool.true_eq_false, decide_true, decide_false, decide_eq_true_eq, decide_eq_false_iff_not, Bool.not_true, Bool.not_false, Bool.not_eq_true', Bool.not_eq_false', Bool.and_true, Bool.true_and, Bool.false_and, beq_self_eq_true, ite_true, ite_false, true_and, and_true, false_and, and_false, not_true_eq_false, not_false_eq_true, false_implies, true_implies, implies_true, eq_self, ne_eq, or_true, true_or, or_false, false_or, Bool.or_false, Bool.or_true, Bool.false_or, Bool.true_or, Int.natCast_nonneg, Int.ofNat_lt, Int.ofNat_le, Int.ofNat_inj, Int.ofNat_zero, ↓reduceIte, reduceIte, Nat.reducePow, Nat.reduceLT, Nat.reduceLeDiff, Nat.reduceEqDiff, Nat.reduceAdd, Nat.reduceMul, Nat.reduceSub, Nat.reduceBEq, reduceCtorEq, sl1, wFacts, gmA]
  have hkn : k < g.n := by show k < g.own.length; omega
  have hmn : m < g.n := by show m < g.own.length; omega
  refine call_fn (solve_ok g hs hv) rfl ?_
  simp only [gmA, ↓wPre, wPost, wFast, Nat.zero_add, Nat.add_zero, Nat.zero_lt_succ, Nat.min_self, Nat.zero_min, Nat.min_zero, Nat.sub_zero, Nat.zero_mul, Int.le_refl, Nat.le_refl, Nat.lt_irrefl, Nat.mul_one, Bool.false_eq_true, Bool.true_eq_false, decide_true, decide_false, decide_eq_true_eq, decide_eq_false_iff_not, Bool.not_true, Bool.not_false, Bool.not_eq_true', Bool.not_eq_false', Bool.and_true, Bool.true_and, Bool.false_and, beq_self_eq_true, ite_true, ite_false, true_and, and_true, false_and, and_false, not_true_eq_false, not_false_eq_true, false_implies, true_implies, implies_true, eq_self, ne_eq, or_true, true_or, or_false, false_or, Bool.or_false, Bool.or_true, Bool.false_or, Bool.true_or, Int.natCast_nonneg, Int.ofNat_lt, Int.ofNat_le, Int.ofNat_inj, Int.ofNat_zero, ↓reduceIte, reduceIte, Nat.reducePow, Nat.reduceLT, Nat.reduceLeDiff, Nat.reduceEqDiff, Nat.reduceAdd, Nat.reduceMul, Nat.reduceSub, Nat.reduceBEq, reduceCtorEq, sl1, wFacts, gmA]
  have hnxk : g.nxt.getD k [] = nx g k := rfl
  have hnxl : (nx g k).length < 1048576 := by have := rising_len (hrest.2.2.2 k hkn).2.1; have e : g.n = g.own.length := rfl; omega
  have hel := fun n => edge_len g k m n
  refine run_loop (fun i : Nat => ⟨27, [], [ints l, I at_, I to_, I how_, I by_, .any, .any, .any, .any, .any, .bool false, .ref 0 0 0, I g.own.length, I k, I m, ints (tab (rk g) g.n), ints (tab (choF g) g.n), I 0, .osl 1 (edgeL g k m i).length 1 0 (edgeL g k m i).length, I i, .any, .any, .any, .any, .any, .any, .any], [], [.con 0 4 (ofL (gmL g)), .row (edgeL g k m i).length (edgeL g k m i).length (slF I 0 (edgeL g k m i))]⟩) (fun i => i ≤ g.own.length) (fun i => g.own.length - i) 0 (by omega)
    ((sub_con 0 rfl).trans ((sub_adopt 18 1 (slF I 0 []) rfl).trans (sub_mk rfl (by simp [AS.put, subL, ints, sl1, I, edgeL, allN]) (by simp [AS.put, subT]) (by simp [AS.put, gmL, ints, intss, sl1, edgeL, allN])))) ?_
  intro i hi next
  have w1 := wj i (by omega)
  have hes := edge_succ g k m i
  have heli := hel i
  have hpick : appF (edgeL g k m i).length (slF I 0 (edgeL g k m i)) 1 (ofL [.int .i64 i]) = slF I 0 (edgeL g k m i ++ [(i : Int)]) := appF_I _ _
  by_cases hi' : i < g.own.length
  · refine vc_soundN 1000 ?_
    simp (config := { maxSteps := 2000000 }) only [w1, gmL, hnxk, hpick, ↓wPre, wPost, wFast, Nat.zero_add, Nat.add_zero, Nat.zero_lt_succ, Nat.min_self, Nat.zero_min, Nat.min_zero, Nat.sub_zero, Nat.zero_mul, Int.le_refl, Nat.le_refl, Nat.lt_irrefl, Nat.mul_one, Bool.false_eq_true, Bool.true_eq_false, decide_true, decide_false, decide_eq_true_eq, decide_eq_false_iff_not, Bool.not_true, Bool.not_false, Bool.not_eq_true', Bool.not_eq_false', Bool.and_true, Bool.true_and, Bool.false_and, beq_self_eq_true, ite_true, ite_false, true_and, and_true, false_and, and_false, not_true_eq_false, not_false_eq_true, false_implies, true_implies, implies_true, eq_self, ne_eq, or_true, true_or, or_false, false_or, Bool.or_false, Bool.or_true, Bool.false_or, Bool.true_or, Int.natCast_nonneg, Int.ofNat_lt, Int.ofNat_le, Int.ofNat_inj, Int.ofNat_zero, ↓reduceIte, reduceIte, Nat.reducePow, Nat.reduceLT, Nat.reduceLeDiff, Nat.reduceEqDiff, Nat.reduceAdd, Nat.reduceMul, Nat.reduceSub, Nat.reduceBEq, reduceCtorEq, sl1, wFacts, gmA]
    have hgrow : ((i : Int) = (m : Int) ∨ (i : Int) ∈ nx g k) → edgeL g k m (i + 1) = edgeL g k m i ++ [(i : Int)] := fun h => by rw [hes, if_pos h]
    have hsame : ¬ ((i : Int) = (m : Int) ∨ (i : Int) ∈ nx g k) → edgeL g k m (i + 1) = edgeL g k m i := fun h => by rw [hes, if_neg h, List.append_nil]
    refine ⟨fun _ => ⟨fun hc => ⟨⟨by omega, by omega⟩, ?_⟩, fun hc => ⟨by omega, by omega, call_fn (has_fn (nx g k) i (by omega)) rfl ?_⟩⟩, fun h => absurd hi' h⟩
    · have e := hgrow (.inl (by omega))
      exact next (i + 1) _ (by omega) (by omega) (sub_mk rfl (by simp [subL, ints, sl1, I, e]) (by simp [subT]) (by simp [gmL, ints, intss, sl1, e]))
    · simp (config := { maxSteps := 2000000 }) only [w1, hpick, ↓wPre, wPost, wFast, Nat.zero_add, Nat.add_zero, Nat.zero_lt_succ, Nat.min_self, Nat.zero_min, Nat.min_zero, Nat.sub_zero, Nat.zero_mul, Int.le_refl, Nat.le_refl, Nat.lt_irrefl, Nat.mul_one, Bool.false_eq_true, Bool.true_eq_false, decide_true, decide_false, decide_eq_true_eq, decide_eq_false_iff_not, Bool.not_true, Bool.not_false, Bool.not_eq_true', Bool.not_eq_false', Bool.and_true, Bool.true_and, Bool.false_and, beq_self_eq_true, ite_true, ite_false, true_and, and_true, false_and, and_false, not_true_eq_false, not_false_eq_true, false_implies, true_implies, implies_true, eq_self, ne_eq, or_true, true_or, or_false, false_or, Bool.or_false, Bool.or_true, Bool.false_or, Bool.true_or, Int.natCast_nonneg, Int.ofNat_lt, Int.ofNat_le, Int.ofNat_inj, Int.ofNat_zero, ↓reduceIte, reduceIte, Nat.reducePow, Nat.reduceLT, Nat.reduceLeDiff, Nat.reduceEqDiff, Nat.reduceAdd, Nat.reduceMul, Nat.reduceSub, Nat.reduceBEq, reduceCtorEq, sl1, wFacts, gmA]
      refine ⟨fun hc2 => ⟨⟨by omega, by omega⟩, ?_⟩, fun hc2 => ?_⟩
      · have e := hgrow (.inr hc2)
        exact next (i + 1) _ (by omega) (by omega) (sub_mk rfl (by simp [subL, ints, sl1, I, e]) (by simp [subT]) (by simp [gmL, ints, intss, sl1, e]))
      · have e := hsame (by rintro (h | h); exact hc (by omega); exact hc2 h)
        exact next (i + 1) _ (by omega) (by omega) (sub_mk rfl (by simp [subL, ints, sl1, I, e]) (by simp [subT]) (by simp [gmL, ints, intss, sl1, e]))
  obtain rfl : i = g.own.length := by omega
  have hi2 : ((g.own.length : Int) < (g.own.length : Int)) = False := eq_false (by omega)
  have hi3 : (g.own.length < g.own.length) = False := eq_false (by omega)
  have hmx : (moreG g k m).nxt = g.nxt.set k (edgeL g k m g.own.length) := rfl
  have hml : (moreG g k m).nxt.length = g.nxt.length := by rw [hmx, List.length_set]
  refine vc_soundN 57 ?_
  simp (config := { maxSteps := 2000000 }) only [w1, gmL, hnxk, hpick, hi2, hi3, ↓wPre, wPost, wFast, Nat.zero_add, Nat.add_zero, Nat.zero_lt_succ, Nat.min_self, Nat.zero_min, Nat.min_zero, Nat.sub_zero, Nat.zero_mul, Int.le_refl, Nat.le_refl, Nat.lt_irrefl, Nat.mul_one, Bool.false_eq_true, Bool.true_eq_false, decide_true, decide_false, decide_eq_true_eq, decide_eq_false_iff_not, Bool.not_true, Bool.not_false, Bool.not_eq_true', Bool.not_eq_false', Bool.and_true, Bool.true_and, Bool.false_and, beq_self_eq_true, ite_true, ite_false, true_and, and_true, false_and, and_false, not_true_eq_false, not_false_eq_true, false_implies, true_implies, implies_true, eq_self, ne_eq, or_true, true_or, or_false, false_or, Bool.or_false, Bool.or_true, Bool.false_or, Bool.true_or, Int.natCast_nonneg, Int.ofNat_lt, Int.ofNat_le, Int.ofNat_inj, Int.ofNat_zero, ↓reduceIte, reduceIte, Nat.reducePow, Nat.reduceLT, Nat.reduceLeDiff, Nat.reduceEqDiff, Nat.reduceAdd, Nat.reduceMul, Nat.reduceSub, Nat.reduceBEq, reduceCtorEq, sl1, wFacts, gmA]
  refine ⟨⟨by omega, by omega⟩, by omega, by omega, ?_⟩
  refine Run.sub (s' := ⟨27, [], [ints l, I at_, I to_, I how_, I by_, .any, .any, .any, .any, .any, .bool false, .ref 0 0 0, I g.own.length, I k, I m, ints (tab (rk g) g.n), ints (tab (choF g) g.n), I 0, .any, .any, .ref 2 0 0, .any, .any, .any, .any, .any, .any], [], [.con 0 4 (ofL (gmL g)), .con (edgeL g k m g.own.length).length (edgeL g k m g.own.length).length (slF I 0 (edgeL g k m g.own.length)), .row 0 4 (ofL (gmL (moreG g k m)))]⟩) ?_ ?_
  rotate_left
  · refine (sub_con 1 rfl).trans ((sub_roww 3 (slF ints [] (moreG g k m).nxt) rfl ?_).trans ((sub_con 3 rfl).trans ((sub_roww 2 (ofL (gmL (moreG g k m))) rfl ?_).trans (sub_cut (m := 3) (Nat.zero_le _) rfl ?_ ?_ ?_ (by simp [wBel]) (by simp [wBel]) (by simp [gmL, wBel])))))
    · intro j hj
      show WeakIn _ (upd _ k _ j) (slF ints [] (g.nxt.set k (edgeL g k m g.own.length)) j)
      unfold upd
      by_cases e : j = k
      · subst e
        rw [if_pos rfl, slF_at]
        have e2 : (g.nxt.set j (edgeL g j m g.own.length)).getD j [] = edgeL g j m g.own.length := by simp [List.getD_eq_getElem?_getD, hj]
        rw [e2]
        exact weakIn_osl rfl (Nat.le_refl _) (fun h => h) (fun q _ => weakIn_rfl _ _)
      · rw [if_neg e, slF_at]
        have e2 : (g.nxt.set k (edgeL g k m g.own.length)).getD j [] = g.nxt.getD j [] := by simp [List.getD_eq_getElem?_getD, List.getElem?_set_ne (Ne.symm e)]
        rw [e2]
        unfold appF
        rw [if_neg (by omega), if_pos (by omega), Nat.sub_zero]
        exact weakIn_rfl _ _
    · intro j hj
      rcases (show j = 0 ∨ j = 1 ∨ j = 2 ∨ j = 3 by omega) with rfl | rfl | rfl | rfl
      · exact weakIn_rfl _ _
      · show WeakIn _ (.osl 3 0 1 0 g.nxt.length) (intss (moreG g k m).nxt)
        unfold intss sl1
        rw [hml]
        exact weakIn_osl rfl (Nat.le_refl _) (fun h => h) (fun q _ => weakIn_rfl _ _)
      · exact weakIn_rfl _ _
      · exact weakIn_rfl _ _
    · simp [subL, ints, sl1, I]
    · simp [subT]
    · simp [gmL, ints, intss, sl1]
  have hs2 : smallG (moreG g k m) := more_small hs hrest
  have hv2 := more_valid hv hkn hmn
  have fA : ∀ i, i < g.own.length → ow g k = 0 → 0 ≤ (tab (rk g) g.n).getD i 0 → 0 ≤ (tab (rk (moreG g k m)) g.n).getD i 0 ∧ (tab (rk (moreG g k m)) g.n).getD i 0 ≤ (tab (rk g) g.n).getD i 0 := fun i hi ho => by
    rw [tab_at _ _ _ (show i < g.n from hi), tab_at _ _ _ (show i < g.n from hi)]
    exact more_planner hrest hkn hmn ho hi
  have fB : ∀ i, i < g.own.length → ow g k = 1 → nx g k ≠ [] → 0 ≤ (tab (rk (moreG g k m)) g.n).getD i 0 → 0 ≤ (tab (rk g) g.n).getD i 0 ∧ (tab (rk g) g.n).getD i 0 ≤ (tab (rk (moreG g k m)) g.n).getD i 0 := fun i hi ho hne => by
    rw [tab_at _ _ _ (show i < g.n from hi), tab_at _ _ _ (show i < g.n from hi)]
    exact more_faults hrest hkn hmn ho hne hi
  have fC : ∀ (T : List Int) (i : Nat), i < g.own.length → checkG g i T (tab (choF g) g.n) = 0 → 0 ≤ (tab (rk g) g.n).getD i 0 ∧ (tab (rk g) g.n).getD i 0 ≤ T.getD i 0 := fun T i hi h => by
    rw [tab_at _ _ _ (show i < g.n from hi)]
    obtain ⟨f1, f2⟩ := (check_zero hv).1 h
    exact cert_least hrest f2 hi (by have := f1.2.2.2.2; simpa using this)
  have hsol := solve_ok (moreG g k m) hs2 hv2
  have hR2l : (tab (rk (moreG g k m)) g.n).length = g.own.length := tab_len _ _
  rw [show (moreG g k m).n = g.n from rfl] at hsol
  have hRl : (tab (rk g) g.n).length = g.own.length := tab_len _ _
  have hCl : (tab (choF g) g.n).length = g.own.length := tab_len _ _
  generalize tab (rk (moreG g k m)) g.n = R2 at *
  generalize tab (choF (moreG g k m)) g.n = C2 at *
  generalize tab (rk g) g.n = R at *
  generalize tab (choF g) g.n = C at *
  refine vc_soundN 1000 ?_
  simp (config := { maxSteps := 2000000 }) only [gmL, ↓wPre, wPost, wFast, Nat.zero_add, Nat.add_zero, Nat.zero_lt_succ, Nat.min_self, Nat.zero_min, Nat.min_zero, Nat.sub_zero, Nat.zero_mul, Int.le_refl, Nat.le_refl, Nat.lt_irrefl, Nat.mul_one, Bool.false_eq_true, Bool.true_eq_false, decide_true, decide_false, decide_eq_true_eq, decide_eq_false_iff_not, Bool.not_true, Bool.not_false, Bool.not_eq_true', Bool.not_eq_false', Bool.and_true, Bool.true_and, Bool.false_and, beq_self_eq_true, ite_true, ite_false, true_and, and_true, false_and, and_false, not_true_eq_false, not_false_eq_true, false_implies, true_implies, implies_true, eq_self, ne_eq, or_true, true_or, or_false, false_or, Bool.or_false, Bool.or_true, Bool.false_or, Bool.true_or, Int.natCast_nonneg, Int.ofNat_lt, Int.ofNat_le, Int.ofNat_inj, Int.ofNat_zero, ↓reduceIte, reduceIte, Nat.reducePow, Nat.reduceLT, Nat.reduceLeDiff, Nat.reduceEqDiff, Nat.reduceAdd, Nat.reduceMul, Nat.reduceSub, Nat.reduceBEq, reduceCtorEq, sl1, wFacts, gmA]
  refine call_fn hsol rfl ?_
  simp (config := { maxSteps := 2000000 }) only [gmL, ↓wPre, wPost, wFast, Nat.zero_add, Nat.add_zero, Nat.zero_lt_succ, Nat.min_self, Nat.zero_min, Nat.min_zero, Nat.sub_zero, Nat.zero_mul, Int.le_refl, Nat.le_refl, Nat.lt_irrefl, Nat.mul_one, Bool.false_eq_true, Bool.true_eq_false, decide_true, decide_false, decide_eq_true_eq, decide_eq_false_iff_not, Bool.not_true, Bool.not_false, Bool.not_eq_true', Bool.not_eq_false', Bool.and_true, Bool.true_and, Bool.false_and, beq_self_eq_true, ite_true, ite_false, true_and, and_true, false_and, and_false, not_true_eq_false, not_false_eq_true, false_implies, true_implies, implies_true, eq_self, ne_eq, or_true, true_or, or_false, false_or, Bool.or_false, Bool.or_true, Bool.false_or, Bool.true_or, Int.natCast_nonneg, Int.ofNat_lt, Int.ofNat_le, Int.ofNat_inj, Int.ofNat_zero, ↓reduceIte, reduceIte, Nat.reducePow, Nat.reduceLT, Nat.reduceLeDiff, Nat.reduceEqDiff, Nat.reduceAdd, Nat.reduceMul, Nat.reduceSub, Nat.reduceBEq, reduceCtorEq, sl1, wFacts, gmA]
  refine ⟨fun q => absurd hRl (by omega), fun q => ⟨fun q => absurd hR2l (by omega), fun q => ?_⟩⟩
  refine run_loop (fun i : Nat => ⟨27, [], [ints l, I at_, I to_, I how_, I by_, .any, .any, .any, .any, .any, .bool false, .ref 0 0 0, I g.own.length, I k, I m, ints R, ints C, .any, .any, .any, .any, ints R2, .any, .any, I i, .any, .any], [], [.con 0 4 (ofL (gmL g))]⟩) (fun i => i ≤ g.own.length) (fun i => g.own.length - i) 0 (by omega)
    (sub_cut (m := 1) (Nat.zero_le _) rfl (by simp [subL, ints, sl1, I]) (by simp [subT]) (by simp [gmL, ints, intss, sl1]) (by simp [wBel]) (by simp [wBel]) (by simp [gmL, wBel])) ?_
  intro i hi next
  have w1 := wj i (by omega)
  have how : g.own.getD k 0 = ow g k := rfl
  by_cases hi' : i < g.own.length
  · have hlt : (i < g.own.length) = True := eq_true hi'
    have ho01 := (hrest.2.2.2 k hkn).1
    by_cases o : ow g k = 0
    · by_cases c : 0 ≤ R.getD i 0
      · have a := fA i hi' o c
        have p1 : (ow g k = 0) = True := eq_true o
        have p2 : (ow g k = 1) = False := eq_false (by omega)
        have p3 : (0 ≤ R.getD i 0) = True := eq_true c
        have p4 : (R2.getD i 0 < 0) = False := eq_false (by omega)
        have p5 : (R.getD i 0 < R2.getD i 0) = False := eq_false (by omega)
        refine vc_soundN 1000 ?_
        simp (config := { maxSteps := 2000000 }) only [w1, gmL, hnxk, how, hlt, p1, p2, p3, p4, p5, ↓wPre, wPost, wFast, Nat.zero_add, Nat.add_zero, Nat.zero_lt_succ, Nat.min_self, Nat.zero_min, Nat.min_zero, Nat.sub_zero, Nat.zero_mul, Int.le_refl, Nat.le_refl, Nat.lt_irrefl, Nat.mul_one, Bool.false_eq_true, Bool.true_eq_false, decide_true, decide_false, decide_eq_true_eq, decide_eq_false_iff_not, Bool.not_true, Bool.not_false, Bool.not_eq_true', Bool.not_eq_false', Bool.and_true, Bool.true_and, Bool.false_and, beq_self_eq_true, ite_true, ite_false, true_and, and_true, false_and, and_false, not_true_eq_false, not_false_eq_true, false_implies, true_implies, implies_true, eq_self, ne_eq, or_true, true_or, or_false, false_or, Bool.or_false, Bool.or_true, Bool.false_or, Bool.true_or, Int.natCast_nonneg, Int.ofNat_lt, Int.ofNat_le, Int.ofNat_inj, Int.ofNat_zero, ↓reduceIte, reduceIte, Nat.reducePow, Nat.reduceLT, Nat.reduceLeDiff, Nat.reduceEqDiff, Nat.reduceAdd, Nat.reduceMul, Nat.reduceSub, Nat.reduceBEq, reduceCtorEq, sl1, wFacts, gmA]
        try and_intros
        all_goals first | omega | exact next (i + 1) _ (by omega) (by omega) (sub_mk rfl (by simp [subL, ints, sl1, I]) (by simp [subT]) (by simp [gmL, ints, intss, sl1]))
      · skip
        have p1 : (ow g k = 0) = True := eq_true o
        have p2 : (ow g k = 1) = False := eq_false (by omega)
        have p3 : (0 ≤ R.getD i 0) = False := eq_false c
        refine vc_soundN 1000 ?_
        simp (config := { maxSteps := 2000000 }) only [w1, gmL, hnxk, how, hlt, p1, p2, p3, ↓wPre, wPost, wFast, Nat.zero_add, Nat.add_zero, Nat.zero_lt_succ, Nat.min_self, Nat.zero_min, Nat.min_zero, Nat.sub_zero, Nat.zero_mul, Int.le_refl, Nat.le_refl, Nat.lt_irrefl, Nat.mul_one, Bool.false_eq_true, Bool.true_eq_false, decide_true, decide_false, decide_eq_true_eq, decide_eq_false_iff_not, Bool.not_true, Bool.not_false, Bool.not_eq_true', Bool.not_eq_false', Bool.and_true, Bool.true_and, Bool.false_and, beq_self_eq_true, ite_true, ite_false, true_and, and_true, false_and, and_false, not_true_eq_false, not_false_eq_true, false_implies, true_implies, implies_true, eq_self, ne_eq, or_true, true_or, or_false, false_or, Bool.or_false, Bool.or_true, Bool.false_or, Bool.true_or, Int.natCast_nonneg, Int.ofNat_lt, Int.ofNat_le, Int.ofNat_inj, Int.ofNat_zero, ↓reduceIte, reduceIte, Nat.reducePow, Nat.reduceLT, Nat.reduceLeDiff, Nat.reduceEqDiff, Nat.reduceAdd, Nat.reduceMul, Nat.reduceSub, Nat.reduceBEq, reduceCtorEq, sl1, wFacts, gmA]
        try and_intros
        all_goals first | omega | exact next (i + 1) _ (by omega) (by omega) (sub_mk rfl (by simp [subL, ints, sl1, I]) (by simp [subT]) (by simp [gmL, ints, intss, sl1]))
    · have o1 : ow g k = 1 := by omega
      by_cases ne : nx g k = []
      · have p3' : (nx g k).length = 0 := by rw [ne]; rfl
        have p1 : (ow g k = 0) = False := eq_false o
        have p2 : (ow g k = 1) = True := eq_true o1
        have p3 : (0 < ((nx g k).length : Int)) = False := eq_false (by omega)
        refine vc_soundN 1000 ?_
        simp (config := { maxSteps := 2000000 }) only [w1, gmL, hnxk, how, hlt, p1, p2, p3, ↓wPre, wPost, wFast, Nat.zero_add, Nat.add_zero, Nat.zero_lt_succ, Nat.min_self, Nat.zero_min, Nat.min_zero, Nat.sub_zero, Nat.zero_mul, Int.le_refl, Nat.le_refl, Nat.lt_irrefl, Nat.mul_one, Bool.false_eq_true, Bool.true_eq_false, decide_true, decide_false, decide_eq_true_eq, decide_eq_false_iff_not, Bool.not_true, Bool.not_false, Bool.not_eq_true', Bool.not_eq_false', Bool.and_true, Bool.true_and, Bool.false_and, beq_self_eq_true, ite_true, ite_false, true_and, and_true, false_and, and_false, not_true_eq_false, not_false_eq_true, false_implies, true_implies, implies_true, eq_self, ne_eq, or_true, true_or, or_false, false_or, Bool.or_false, Bool.or_true, Bool.false_or, Bool.true_or, Int.natCast_nonneg, Int.ofNat_lt, Int.ofNat_le, Int.ofNat_inj, Int.ofNat_zero, ↓reduceIte, reduceIte, Nat.reducePow, Nat.reduceLT, Nat.reduceLeDiff, Nat.reduceEqDiff, Nat.reduceAdd, Nat.reduceMul, Nat.reduceSub, Nat.reduceBEq, reduceCtorEq, sl1, wFacts, gmA]
        try and_intros
        all_goals first | omega | exact next (i + 1) _ (by omega) (by omega) (sub_mk rfl (by simp [subL, ints, sl1, I]) (by simp [subT]) (by simp [gmL, ints, intss, sl1]))
      · have p3' : 0 < (nx g k).length := List.length_pos_iff.2 ne
        by_cases c : 0 ≤ R2.getD i 0
        · have a := fB i hi' o1 ne c
          have p1 : (ow g k = 0) = False := eq_false o
          have p2 : (ow g k = 1) = True := eq_true o1
          have p3 : (0 < ((nx g k).length : Int)) = True := eq_true (by omega)
          have p4 : (0 ≤ R2.getD i 0) = True := eq_true c
          have p5 : (R.getD i 0 < 0) = False := eq_false (by omega)
          have p6 : (R2.getD i 0 < R.getD i 0) = False := eq_false (by omega)
          refine vc_soundN 1000 ?_
          simp (config := { maxSteps := 2000000 }) only [w1, gmL, hnxk, how, hlt, p1, p2, p3, p4, p5, p6, ↓wPre, wPost, wFast, Nat.zero_add, Nat.add_zero, Nat.zero_lt_succ, Nat.min_self, Nat.zero_min, Nat.min_zero, Nat.sub_zero, Nat.zero_mul, Int.le_refl, Nat.le_refl, Nat.lt_irrefl, Nat.mul_one, Bool.false_eq_true, Bool.true_eq_false, decide_true, decide_false, decide_eq_true_eq, decide_eq_false_iff_not, Bool.not_true, Bool.not_false, Bool.not_eq_true', Bool.not_eq_false', Bool.and_true, Bool.true_and, Bool.false_and, beq_self_eq_true, ite_true, ite_false, true_and, and_true, false_and, and_false, not_true_eq_false, not_false_eq_true, false_implies, true_implies, implies_true, eq_self, ne_eq, or_true, true_or, or_false, false_or, Bool.or_false, Bool.or_true, Bool.false_or, Bool.true_or, Int.natCast_nonneg, Int.ofNat_lt, Int.ofNat_le, Int.ofNat_inj, Int.ofNat_zero, ↓reduceIte, reduceIte, Nat.reducePow, Nat.reduceLT, Nat.reduceLeDiff, Nat.reduceEqDiff, Nat.reduceAdd, Nat.reduceMul, Nat.reduceSub, Nat.reduceBEq, reduceCtorEq, sl1, wFacts, gmA]
          try and_intros
          all_goals first | omega | exact next (i + 1) _ (by omega) (by omega) (sub_mk rfl (by simp [subL, ints, sl1, I]) (by simp [subT]) (by simp [gmL, ints, intss, sl1]))
        · skip
          have p1 : (ow g k = 0) = False := eq_false o
          have p2 : (ow g k = 1) = True := eq_true o1
          have p3 : (0 < ((nx g k).length : Int)) = True := eq_true (by omega)
          have p4 : (0 ≤ R2.getD i 0) = False := eq_false c
          refine vc_soundN 1000 ?_
          simp (config := { maxSteps := 2000000 }) only [w1, gmL, hnxk, how, hlt, p1, p2, p3, p4, ↓wPre, wPost, wFast, Nat.zero_add, Nat.add_zero, Nat.zero_lt_succ, Nat.min_self, Nat.zero_min, Nat.min_zero, Nat.sub_zero, Nat.zero_mul, Int.le_refl, Nat.le_refl, Nat.lt_irrefl, Nat.mul_one, Bool.false_eq_true, Bool.true_eq_false, decide_true, decide_false, decide_eq_true_eq, decide_eq_false_iff_not, Bool.not_true, Bool.not_false, Bool.not_eq_true', Bool.not_eq_false', Bool.and_true, Bool.true_and, Bool.false_and, beq_self_eq_true, ite_true, ite_false, true_and, and_true, false_and, and_false, not_true_eq_false, not_false_eq_true, false_implies, true_implies, implies_true, eq_self, ne_eq, or_true, true_or, or_false, false_or, Bool.or_false, Bool.or_true, Bool.false_or, Bool.true_or, Int.natCast_nonneg, Int.ofNat_lt, Int.ofNat_le, Int.ofNat_inj, Int.ofNat_zero, ↓reduceIte, reduceIte, Nat.reducePow, Nat.reduceLT, Nat.reduceLeDiff, Nat.reduceEqDiff, Nat.reduceAdd, Nat.reduceMul, Nat.reduceSub, Nat.reduceBEq, reduceCtorEq, sl1, wFacts, gmA]
          try and_intros
          all_goals first | omega | exact next (i + 1) _ (by omega) (by omega) (sub_mk rfl (by simp [subL, ints, sl1, I]) (by simp [subT]) (by simp [gmL, ints, intss, sl1]))
  have hlt : (i < g.own.length) = False := eq_false hi'
  refine vc_soundN 1000 ?_
  simp (config := { maxSteps := 2000000 }) only [w1, gmL, hnxk, how, hlt, ↓wPre, wPost, wFast, Nat.zero_add, Nat.add_zero, Nat.zero_lt_succ, Nat.min_self, Nat.zero_min, Nat.min_zero, Nat.sub_zero, Nat.zero_mul, Int.le_refl, Nat.le_refl, Nat.lt_irrefl, Nat.mul_one, Bool.false_eq_true, Bool.true_eq_false, decide_true, decide_false, decide_eq_true_eq, decide_eq_false_iff_not, Bool.not_true, Bool.not_false, Bool.not_eq_true', Bool.not_eq_false', Bool.and_true, Bool.true_and, Bool.false_and, beq_self_eq_true, ite_true, ite_false, true_and, and_true, false_and, and_false, not_true_eq_false, not_false_eq_true, false_implies, true_implies, implies_true, eq_self, ne_eq, or_true, true_or, or_false, false_or, Bool.or_false, Bool.or_true, Bool.false_or, Bool.true_or, Int.natCast_nonneg, Int.ofNat_lt, Int.ofNat_le, Int.ofNat_inj, Int.ofNat_zero, ↓reduceIte, reduceIte, Nat.reducePow, Nat.reduceLT, Nat.reduceLeDiff, Nat.reduceEqDiff, Nat.reduceAdd, Nat.reduceMul, Nat.reduceSub, Nat.reduceBEq, reduceCtorEq, sl1, wFacts, gmA]
  refine call_fn (changed_fn R how_ at_ by_ (by omega) h1 h4) rfl ?_
  have hT := changedF_len R how_ at_ by_ (by omega)
  generalize changedF R how_ at_ by_ = T at *
  simp (config := { maxSteps := 2000000 }) only [gmL, ↓wPre, wPost, wFast, Nat.zero_add, Nat.add_zero, Nat.zero_lt_succ, Nat.min_self, Nat.zero_min, Nat.min_zero, Nat.sub_zero, Nat.zero_mul, Int.le_refl, Nat.le_refl, Nat.lt_irrefl, Nat.mul_one, Bool.false_eq_true, Bool.true_eq_false, decide_true, decide_false, decide_eq_true_eq, decide_eq_false_iff_not, Bool.not_true, Bool.not_false, Bool.not_eq_true', Bool.not_eq_false', Bool.and_true, Bool.true_and, Bool.false_and, beq_self_eq_true, ite_true, ite_false, true_and, and_true, false_and, and_false, not_true_eq_false, not_false_eq_true, false_implies, true_implies, implies_true, eq_self, ne_eq, or_true, true_or, or_false, false_or, Bool.or_false, Bool.or_true, Bool.false_or, Bool.true_or, Int.natCast_nonneg, Int.ofNat_lt, Int.ofNat_le, Int.ofNat_inj, Int.ofNat_zero, ↓reduceIte, reduceIte, Nat.reducePow, Nat.reduceLT, Nat.reduceLeDiff, Nat.reduceEqDiff, Nat.reduceAdd, Nat.reduceMul, Nat.reduceSub, Nat.reduceBEq, reduceCtorEq, sl1, wFacts, gmA]
  refine run_loop (fun i : Nat => ⟨27, [], [ints l, I at_, I to_, I how_, I by_, .any, .any, .any, .any, .any, .bool false, .ref 0 0 0, I g.own.length, I k, I m, ints R, ints C, .any, .any, .any, .any, .any, .any, .any, .any, ints T, I i], [], [.con 0 4 (ofL (gmL g))]⟩) (fun i => i ≤ g.own.length) (fun i => g.own.length - i) 0 (by omega)
    (sub_mk rfl (by simp [subL, ints, sl1, I]) (by simp [subT]) (by simp [gmL, ints, intss, sl1])) ?_
  intro i hi next
  have w1 := wj i (by omega)
  refine vc_soundN 1000 ?_
  simp (config := { maxSteps := 2000000 }) only [w1, gmL, hnxk, how, ↓wPre, wPost, wFast, Nat.zero_add, Nat.add_zero, Nat.zero_lt_succ, Nat.min_self, Nat.zero_min, Nat.min_zero, Nat.sub_zero, Nat.zero_mul, Int.le_refl, Nat.le_refl, Nat.lt_irrefl, Nat.mul_one, Bool.false_eq_true, Bool.true_eq_false, decide_true, decide_false, decide_eq_true_eq, decide_eq_false_iff_not, Bool.not_true, Bool.not_false, Bool.not_eq_true', Bool.not_eq_false', Bool.and_true, Bool.true_and, Bool.false_and, beq_self_eq_true, ite_true, ite_false, true_and, and_true, false_and, and_false, not_true_eq_false, not_false_eq_true, false_implies, true_implies, implies_true, eq_self, ne_eq, or_true, true_or, or_false, false_or, Bool.or_false, Bool.or_true, Bool.false_or, Bool.true_or, Int.natCast_nonneg, Int.ofNat_lt, Int.ofNat_le, Int.ofNat_inj, Int.ofNat_zero, ↓reduceIte, reduceIte, Nat.reducePow, Nat.reduceLT, Nat.reduceLeDiff, Nat.reduceEqDiff, Nat.reduceAdd, Nat.reduceMul, Nat.reduceSub, Nat.reduceBEq, reduceCtorEq, sl1, wFacts, gmA]
  refine ⟨fun hi' => ⟨fun ht => ?_, fun ht => ?_⟩, fun hi' => ?_⟩
  · refine call_fn (check_fn g hs i T C (by omega) (by omega)) rfl ?_
    by_cases c : checkG g i T C = 0
    · have a := fC T i hi' c
      have p1 : (R.getD i 0 < 0) = False := eq_false (by omega)
      have p2 : (T.getD i 0 < R.getD i 0) = False := eq_false (by omega)
      simp (config := { maxSteps := 2000000 }) only [w1, c, p1, p2, ↓wPre, wPost, wFast, Nat.zero_add, Nat.add_zero, Nat.zero_lt_succ, Nat.min_self, Nat.zero_min, Nat.min_zero, Nat.sub_zero, Nat.zero_mul, Int.le_refl, Nat.le_refl, Nat.lt_irrefl, Nat.mul_one, Bool.false_eq_true, Bool.true_eq_false, decide_true, decide_false, decide_eq_true_eq, decide_eq_false_iff_not, Bool.not_true, Bool.not_false, Bool.not_eq_true', Bool.not_eq_false', Bool.and_true, Bool.true_and, Bool.false_and, beq_self_eq_true, ite_true, ite_false, true_and, and_true, false_and, and_false, not_true_eq_false, not_false_eq_true, false_implies, true_implies, implies_true, eq_self, ne_eq, or_true, true_or, or_false, false_or, Bool.or_false, Bool.or_true, Bool.false_or, Bool.true_or, Int.natCast_nonneg, Int.ofNat_lt, Int.ofNat_le, Int.ofNat_inj, Int.ofNat_zero, ↓reduceIte, reduceIte, Nat.reducePow, Nat.reduceLT, Nat.reduceLeDiff, Nat.reduceEqDiff, Nat.reduceAdd, Nat.reduceMul, Nat.reduceSub, Nat.reduceBEq, reduceCtorEq, sl1, wFacts, gmA]
      try and_intros
      all_goals first | omega | exact next (i + 1) _ (by omega) (by omega) (sub_mk rfl (by simp [subL, ints, sl1, I]) (by simp [subT]) (by simp [gmL, ints, intss, sl1]))
    · have p1 : (checkG g i T C = 0) = False := eq_false c
      simp (config := { maxSteps := 2000000 }) only [w1, p1, ↓wPre, wPost, wFast, Nat.zero_add, Nat.add_zero, Nat.zero_lt_succ, Nat.min_self, Nat.zero_min, Nat.min_zero, Nat.sub_zero, Nat.zero_mul, Int.le_refl, Nat.le_refl, Nat.lt_irrefl, Nat.mul_one, Bool.false_eq_true, Bool.true_eq_false, decide_true, decide_false, decide_eq_true_eq, decide_eq_false_iff_not, Bool.not_true, Bool.not_false, Bool.not_eq_true', Bool.not_eq_false', Bool.and_true, Bool.true_and, Bool.false_and, beq_self_eq_true, ite_true, ite_false, true_and, and_true, false_and, and_false, not_true_eq_false, not_false_eq_true, false_implies, true_implies, implies_true, eq_self, ne_eq, or_true, true_or, or_false, false_or, Bool.or_false, Bool.or_true, Bool.false_or, Bool.true_or, Int.natCast_nonneg, Int.ofNat_lt, Int.ofNat_le, Int.ofNat_inj, Int.ofNat_zero, ↓reduceIte, reduceIte, Nat.reducePow, Nat.reduceLT, Nat.reduceLeDiff, Nat.reduceEqDiff, Nat.reduceAdd, Nat.reduceMul, Nat.reduceSub, Nat.reduceBEq, reduceCtorEq, sl1, wFacts, gmA]
      exact next (i + 1) _ (by omega) (by omega) (sub_mk rfl (by simp [subL, ints, sl1, I]) (by simp [subT]) (by simp [gmL, ints, intss, sl1]))
  · refine call_fn lives_fn rfl ?_
    simp only [↓wPre, wPost, wFast, Nat.zero_add, Nat.add_zero, Nat.zero_lt_succ, Nat.min_self, Nat.zero_min, Nat.min_zero, Nat.sub_zero, Nat.zero_mul, Int.le_refl, Nat.le_refl, Nat.lt_irrefl, Nat.mul_one, Bool.false_eq_true, Bool.true_eq_false, decide_true, decide_false, decide_eq_true_eq, decide_eq_false_iff_not, Bool.not_true, Bool.not_false, Bool.not_eq_true', Bool.not_eq_false', Bool.and_true, Bool.true_and, Bool.false_and, beq_self_eq_true, ite_true, ite_false, true_and, and_true, false_and, and_false, not_true_eq_false, not_false_eq_true, false_implies, true_implies, implies_true, eq_self, ne_eq, or_true, true_or, or_false, false_or, Bool.or_false, Bool.or_true, Bool.false_or, Bool.true_or, Int.natCast_nonneg, Int.ofNat_lt, Int.ofNat_le, Int.ofNat_inj, Int.ofNat_zero, ↓reduceIte, reduceIte, Nat.reducePow, Nat.reduceLT, Nat.reduceLeDiff, Nat.reduceEqDiff, Nat.reduceAdd, Nat.reduceMul, Nat.reduceSub, Nat.reduceBEq, reduceCtorEq, sl1, wFacts, gmA]
    exact ret1E rfl rfl (settled_bool _) rfl
  · refine call_fn lives_fn rfl ?_
    simp only [↓wPre, wPost, wFast, Nat.zero_add, Nat.add_zero, Nat.zero_lt_succ, Nat.min_self, Nat.zero_min, Nat.min_zero, Nat.sub_zero, Nat.zero_mul, Int.le_refl, Nat.le_refl, Nat.lt_irrefl, Nat.mul_one, Bool.false_eq_true, Bool.true_eq_false, decide_true, decide_false, decide_eq_true_eq, decide_eq_false_iff_not, Bool.not_true, Bool.not_false, Bool.not_eq_true', Bool.not_eq_false', Bool.and_true, Bool.true_and, Bool.false_and, beq_self_eq_true, ite_true, ite_false, true_and, and_true, false_and, and_false, not_true_eq_false, not_false_eq_true, false_implies, true_implies, implies_true, eq_self, ne_eq, or_true, true_or, or_false, false_or, Bool.or_false, Bool.or_true, Bool.false_or, Bool.true_or, Int.natCast_nonneg, Int.ofNat_lt, Int.ofNat_le, Int.ofNat_inj, Int.ofNat_zero, ↓reduceIte, reduceIte, Nat.reducePow, Nat.reduceLT, Nat.reduceLeDiff, Nat.reduceEqDiff, Nat.reduceAdd, Nat.reduceMul, Nat.reduceSub, Nat.reduceBEq, reduceCtorEq, sl1, wFacts, gmA]
    exact ret1E rfl rfl (settled_bool _) rfl
end
end Go.Ab.G
