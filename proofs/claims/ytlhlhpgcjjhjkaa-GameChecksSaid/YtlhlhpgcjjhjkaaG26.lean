/- Contracts of functions of this chapter, for every argument that fits, and what they need. -/
import Derived.Test.YtlhlhpgcjjhjkaaG25
set_option linter.unusedSimpArgs false
set_option linter.unusedVariables false
namespace Go.Ab.G
open Go Go.RowKit Go.Proofs
noncomputable section
set_option maxRecDepth 10000
set_option maxHeartbeats 2000000
set_option linter.unusedSimpArgs false
set_option linter.unusedVariables false
set_option pp.maxSteps 100000
open Classical

/-! ### The reference's CheckCounter -/
theorem rcheckw_fn (g : Gm) (hs : smallG g) (fr : Int) (R C : List Int) (hR : R.length < 9223372036854775808) (hC : C.length < 9223372036854775808) : Fn Try.prog 24 [gmA g, I fr, ints R, ints C] (I (checkW g fr R C)) := by
  have hs' := hs
  obtain ⟨s1, s2, s3, s4, s5⟩ := hs
  obtain ⟨V, hV⟩ : ∃ V, V = checkW g fr R C := ⟨_, rfl⟩
  rw [← hV]
  unfold checkW at hV
  refine Fn.intro (fn := Try.f24) Try.call24 Try.func24 rfl mixed 14 [] [] [] (by kernel_rfl) (Nat.le_of_ble_eq_true rfl) (by simp [settled_ints, settled_I, settled_fn0, settled_intss, settled_bool, settled_nil, settled_gmA]) (vc_soundN 1000 ?_); simp (config := { maxSteps := 2000000 }) only [AS.start, ↓wPre, wPost, wFast, Nat.zero_add, Nat.add_zero, Nat.zero_lt_succ, Nat.min_self, Nat.zero_min, Nat.min_zero, Nat.sub_zero, Nat.zero_mul, Int.le_refl, Nat.le_refl, Nat.lt_irrefl, Nat.mul_one, Bool.false_eq_true, Bool.true_eq_false, decide_true, decide_false, decide_eq_true_eq, decide_eq_false_iff_not, Bool.not_true, Bool.not_false, Bool.not_eq_true', Bool.not_eq_false', Bool.and_true, Bool.true_and, Bool.false_and, beq_self_eq_true, ite_true, ite_false, true_and, and_true, false_and, and_false, not_true_eq_false, not_false_eq_true, false_implies, true_implies, implies_true, eq_self, ne_eq, or_true, true_or, or_false, false_or, Bool.or_false, Bool.or_true, Bool.false_or, Bool.true_or, Int.natCast_nonneg, Int.ofNat_lt, Int.ofNat_le, Int.ofNat_inj, Int.ofNat_zero, ↓reduceIte, reduceIte, Nat.reducePow, Nat.reduceLT, Nat.reduceLeDiff, Nat.reduceEqDiff, Nat.reduceAdd, Nat.reduceMul, Nat.reduceSub, Nat.reduceBEq, reduceCtorEq, sl1, wFacts, gmA]
  refine call_fn (rvalid_fn g hs') rfl ?_
  simp only [gmL, ↓wPre, wPost, wFast, Nat.zero_add, Nat.add_zero, Nat.zero_lt_succ, Nat.min_self, Nat.zero_min, Nat.min_zero, Nat.sub_zero, Nat.zero_mul, Int.le_refl, Nat.le_refl, Nat.lt_irrefl, Nat.mul_one, Bool.false_eq_true, Bool.true_eq_false, decide_true, decide_false, decide_eq_true_eq, decide_eq_false_iff_not, Bool.not_true, Bool.not_false, Bool.not_eq_true', Bool.not_eq_false', Bool.and_true, Bool.true_and, Bool.false_and, beq_self_eq_true, ite_true, ite_false, true_and, and_true, false_and, and_false, not_true_eq_false, not_false_eq_true, false_implies, true_implies, implies_true, eq_self, ne_eq, or_true, true_or, or_false, false_or, Bool.or_false, Bool.or_true, Bool.false_or, Bool.true_or, Int.natCast_nonneg, Int.ofNat_lt, Int.ofNat_le, Int.ofNat_inj, Int.ofNat_zero, ↓reduceIte, reduceIte, Nat.reducePow, Nat.reduceLT, Nat.reduceLeDiff, Nat.reduceEqDiff, Nat.reduceAdd, Nat.reduceMul, Nat.reduceSub, Nat.reduceBEq, reduceCtorEq, sl1, wFacts, gmA]
  refine ⟨fun hv => ret1E (v := I (validF g)) rfl rfl (settled_I _) (by rw [hV, if_pos hv]), fun hv => ?_⟩
  rw [if_neg (by simpa using hv)] at hV
  have hv0 : validF g = 0 := by simpa using hv
  obtain ⟨hsz, hrest⟩ := valid_ok hv0
  have hsz2 : g.own.length ≤ 4096 := hsz.2
  have hn : g.n = g.own.length := rfl
  have hnl : g.nxt.length = g.own.length := hrest.1
  have bad : ¬ fitW g fr R C → I 22 = I V := fun h => by rw [hV, if_neg fun h' => h h'.1]
  refine ⟨fun q1 => ret1E rfl rfl (settled_I _) (bad fun h => q1 h.1), fun q1 => ⟨fun q2 => ret1E rfl rfl (settled_I _) (bad fun h => q2 h.2.1), fun q2 => ⟨fun q3 => ret1E rfl rfl (settled_I _) (bad fun h => by have := h.2.2.1; omega), fun q3 => ⟨fun q4 => ret1E rfl rfl (settled_I _) (bad fun h => by have := h.2.2.2.1; omega), fun q4 => ⟨⟨by omega, by omega⟩, by omega, fun q5 => ret1E rfl rfl (settled_I _) (bad fun h => by have := h.2.2.2.2; omega), fun q5 => ?_⟩⟩⟩⟩⟩
  have hfit : fitW g fr R C := ⟨by omega, by omega, by omega, by omega, by omega⟩
  have no : ∀ k, k < g.n → ¬ nodeW g R C k → I 22 = I V := fun k hk h => by rw [hV, if_neg fun h' => h (h'.2 k hk)]
  refine run_loop (fun k : Nat => ⟨14, [], [.any, .any, ints R, ints C, .ref 0 0 0, .any, .any, .any, .any, .any, I g.own.length, I k, .any, .any], [], [.row 0 4 (ofL (gmL g))]⟩) (fun k => k ≤ g.own.length ∧ ∀ j, j < k → nodeW g R C j) (fun k => g.own.length - k) 0 ⟨by omega, fun j hj => by omega⟩
    (sub_mk rfl (by simp [subL, ints, sl1, I]) (by simp [subT]) (by simp [gmL, ints, intss, sl1])) ?_
  rintro k ⟨hk, hinv⟩ next
  have w1 := wj k (by omega)
  refine vc_soundN 1000 ?_
  simp (config := { maxSteps := 2000000 }) only [w1, gmL, ↓wPre, wPost, wFast, Nat.zero_add, Nat.add_zero, Nat.zero_lt_succ, Nat.min_self, Nat.zero_min, Nat.min_zero, Nat.sub_zero, Nat.zero_mul, Int.le_refl, Nat.le_refl, Nat.lt_irrefl, Nat.mul_one, Bool.false_eq_true, Bool.true_eq_false, decide_true, decide_false, decide_eq_true_eq, decide_eq_false_iff_not, Bool.not_true, Bool.not_false, Bool.not_eq_true', Bool.not_eq_false', Bool.and_true, Bool.true_and, Bool.false_and, beq_self_eq_true, ite_true, ite_false, true_and, and_true, false_and, and_false, not_true_eq_false, not_false_eq_true, false_implies, true_implies, implies_true, eq_self, ne_eq, or_true, true_or, or_false, false_or, Bool.or_false, Bool.or_true, Bool.false_or, Bool.true_or, Int.natCast_nonneg, Int.ofNat_lt, Int.ofNat_le, Int.ofNat_inj, Int.ofNat_zero, ↓reduceIte, reduceIte, Nat.reducePow, Nat.reduceLT, Nat.reduceLeDiff, Nat.reduceEqDiff, Nat.reduceAdd, Nat.reduceMul, Nat.reduceSub, Nat.reduceBEq, reduceCtorEq, sl1, wFacts, gmA]
  refine ⟨fun h => ?_, fun h => ret1E (v := I 0) rfl rfl (settled_I _) (by rw [hV, if_pos ⟨hfit, fun k hk => hinv k (by omega)⟩])⟩
  have hkn : k < g.n := h
  have hnx : g.nxt.getD k [] = nx g k := rfl
  have how : g.own.getD k 0 = ow g k := rfl
  have hris := (hrest.2.2.2 k hkn).2.1
  have ho01 := (hrest.2.2.2 k hkn).1
  have hnxl : (nx g k).length ≤ g.own.length := rising_len hris
  have go : nodeW g R C k → k + 1 ≤ g.own.length ∧ ∀ j, j < k + 1 → nodeW g R C j := fun hc => ⟨by omega, fun j hj => by
    by_cases e : j = k
    · rw [e]; exact hc
    · exact hinv j (by omega)⟩
  refine ⟨by omega, by omega, fun e1 => next (k + 1) _ (go (.inl e1)) (by omega) (sub_mk rfl (by simp [subL, ints, sl1, I]) (by simp [subT]) (by simp [gmL, ints, intss, sl1])), fun e1 => ?_⟩
  refine call_fn (has_fn g.bad k (by omega)) rfl ?_
  simp (config := { maxSteps := 2000000 }) only [w1, ↓wPre, wPost, wFast, Nat.zero_add, Nat.add_zero, Nat.zero_lt_succ, Nat.min_self, Nat.zero_min, Nat.min_zero, Nat.sub_zero, Nat.zero_mul, Int.le_refl, Nat.le_refl, Nat.lt_irrefl, Nat.mul_one, Bool.false_eq_true, Bool.true_eq_false, decide_true, decide_false, decide_eq_true_eq, decide_eq_false_iff_not, Bool.not_true, Bool.not_false, Bool.not_eq_true', Bool.not_eq_false', Bool.and_true, Bool.true_and, Bool.false_and, beq_self_eq_true, ite_true, ite_false, true_and, and_true, false_and, and_false, not_true_eq_false, not_false_eq_true, false_implies, true_implies, implies_true, eq_self, ne_eq, or_true, true_or, or_false, false_or, Bool.or_false, Bool.or_true, Bool.false_or, Bool.true_or, Int.natCast_nonneg, Int.ofNat_lt, Int.ofNat_le, Int.ofNat_inj, Int.ofNat_zero, ↓reduceIte, reduceIte, Nat.reducePow, Nat.reduceLT, Nat.reduceLeDiff, Nat.reduceEqDiff, Nat.reduceAdd, Nat.reduceMul, Nat.reduceSub, Nat.reduceBEq, reduceCtorEq, sl1, wFacts, gmA]
  refine ⟨fun e2 => next (k + 1) _ (go (.inr (.inl e2))) (by omega) (sub_mk rfl (by simp [subL, ints, sl1, I]) (by simp [subT]) (by simp [gmL, ints, intss, sl1])), fun e2 => ?_⟩
  have nogood : ¬ okW g R C k → I 22 = I V := fun hok => no k hkn fun hc => by
    rcases hc with hc | hc | hc
    · exact hc e1
    · exact e2 hc
    · exact hok hc
  refine call_fn (has_fn g.goal k (by omega)) rfl ?_
  by_cases hb : (k : Int) ∈ g.goal
  · have p : ((k : Int) ∈ g.goal) = True := eq_true hb
    simp (config := { maxSteps := 2000000 }) only [p, w1, hnx, how, ↓wPre, wPost, wFast, Nat.zero_add, Nat.add_zero, Nat.zero_lt_succ, Nat.min_self, Nat.zero_min, Nat.min_zero, Nat.sub_zero, Nat.zero_mul, Int.le_refl, Nat.le_refl, Nat.lt_irrefl, Nat.mul_one, Bool.false_eq_true, Bool.true_eq_false, decide_true, decide_false, decide_eq_true_eq, decide_eq_false_iff_not, Bool.not_true, Bool.not_false, Bool.not_eq_true', Bool.not_eq_false', Bool.and_true, Bool.true_and, Bool.false_and, beq_self_eq_true, ite_true, ite_false, true_and, and_true, false_and, and_false, not_true_eq_false, not_false_eq_true, false_implies, true_implies, implies_true, eq_self, ne_eq, or_true, true_or, or_false, false_or, Bool.or_false, Bool.or_true, Bool.false_or, Bool.true_or, Int.natCast_nonneg, Int.ofNat_lt, Int.ofNat_le, Int.ofNat_inj, Int.ofNat_zero, ↓reduceIte, reduceIte, Nat.reducePow, Nat.reduceLT, Nat.reduceLeDiff, Nat.reduceEqDiff, Nat.reduceAdd, Nat.reduceMul, Nat.reduceSub, Nat.reduceBEq, reduceCtorEq, sl1, wFacts, gmA]
    exact ret1E rfl rfl (settled_I _) (nogood fun h => h.1 hb)
  by_cases o0 : ow g k = 0
  · have p : ((k : Int) ∈ g.goal) = False := eq_false hb
    have p1 : (ow g k = 0) = True := eq_true o0
    have p2 : (ow g k = 1) = False := eq_false (by omega)
    simp (config := { maxSteps := 2000000 }) only [p, p1, p2, w1, hnx, how, ↓wPre, wPost, wFast, Nat.zero_add, Nat.add_zero, Nat.zero_lt_succ, Nat.min_self, Nat.zero_min, Nat.min_zero, Nat.sub_zero, Nat.zero_mul, Int.le_refl, Nat.le_refl, Nat.lt_irrefl, Nat.mul_one, Bool.false_eq_true, Bool.true_eq_false, decide_true, decide_false, decide_eq_true_eq, decide_eq_false_iff_not, Bool.not_true, Bool.not_false, Bool.not_eq_true', Bool.not_eq_false', Bool.and_true, Bool.true_and, Bool.false_and, beq_self_eq_true, ite_true, ite_false, true_and, and_true, false_and, and_false, not_true_eq_false, not_false_eq_true, false_implies, true_implies, implies_true, eq_self, ne_eq, or_true, true_or, or_false, false_or, Bool.or_false, Bool.or_true, Bool.false_or, Bool.true_or, Int.natCast_nonneg, Int.ofNat_lt, Int.ofNat_le, Int.ofNat_inj, Int.ofNat_zero, ↓reduceIte, reduceIte, Nat.reducePow, Nat.reduceLT, Nat.reduceLeDiff, Nat.reduceEqDiff, Nat.reduceAdd, Nat.reduceMul, Nat.reduceSub, Nat.reduceBEq, reduceCtorEq, sl1, wFacts, gmA]
    refine ⟨by omega, by omega, ?_⟩
    refine run_loop (fun i : Nat => ⟨14, [], [.any, .any, ints R, ints C, .ref 0 0 0, .any, .any, .any, .any, .any, I g.own.length, I k, I i, .any], [], [.row 0 4 (ofL (gmL g))]⟩) (fun i => i ≤ (nx g k).length ∧ ∀ q, q < i → isW R ((nx g k).getD q 0) = true) (fun i => (nx g k).length - i) 0 ⟨by omega, fun q hq => by omega⟩
      (sub_mk rfl (by simp [subL, ints, sl1, I]) (by simp [subT]) (by simp [gmL, ints, intss, sl1])) ?_
    rintro i ⟨hi, hinv2⟩ nexti
    have w2 := wj i (by omega)
    by_cases hi' : i < (nx g k).length
    rotate_left
    · have hlt : (i < (nx g k).length) = False := eq_false hi'
      refine vc_soundN 1000 ?_
      simp (config := { maxSteps := 2000000 }) only [p1, p2, w1, w2, hnx, how, gmL, hlt, ↓wPre, wPost, wFast, Nat.zero_add, Nat.add_zero, Nat.zero_lt_succ, Nat.min_self, Nat.zero_min, Nat.min_zero, Nat.sub_zero, Nat.zero_mul, Int.le_refl, Nat.le_refl, Nat.lt_irrefl, Nat.mul_one, Bool.false_eq_true, Bool.true_eq_false, decide_true, decide_false, decide_eq_true_eq, decide_eq_false_iff_not, Bool.not_true, Bool.not_false, Bool.not_eq_true', Bool.not_eq_false', Bool.and_true, Bool.true_and, Bool.false_and, beq_self_eq_true, ite_true, ite_false, true_and, and_true, false_and, and_false, not_true_eq_false, not_false_eq_true, false_implies, true_implies, implies_true, eq_self, ne_eq, or_true, true_or, or_false, false_or, Bool.or_false, Bool.or_true, Bool.false_or, Bool.true_or, Int.natCast_nonneg, Int.ofNat_lt, Int.ofNat_le, Int.ofNat_inj, Int.ofNat_zero, ↓reduceIte, reduceIte, Nat.reducePow, Nat.reduceLT, Nat.reduceLeDiff, Nat.reduceEqDiff, Nat.reduceAdd, Nat.reduceMul, Nat.reduceSub, Nat.reduceBEq, reduceCtorEq, sl1, wFacts, gmA]
      refine ⟨by omega, by omega, ?_⟩
      refine next (k + 1) _ (go (.inr (.inr ⟨hb, .inl ⟨o0, fun m hm => ?_⟩⟩))) (by omega) (sub_mk rfl (by simp [subL, ints, sl1, I]) (by simp [subT]) (by simp [gmL, ints, intss, sl1]))
      obtain ⟨q, hq, he⟩ := List.getElem_of_mem hm
      have he' : (nx g k).getD q 0 = m := by rw [List.getD_eq_getElem?_getD, List.getElem?_eq_getElem hq]; exact he
      rw [← he']
      exact hinv2 q (by omega)
    have hlt : (i < (nx g k).length) = True := eq_true hi'
    obtain ⟨m, hm⟩ : ∃ m, (nx g k).getD i 0 = m := ⟨_, rfl⟩
    have hmem : m ∈ nx g k := by rw [← hm]; exact getD_mem hi'
    have hin := rising_mem hris hmem
    have hadd : isW R m = true → i + 1 ≤ (nx g k).length ∧ ∀ q, q < i + 1 → isW R ((nx g k).getD q 0) = true := fun hb1 => ⟨by omega, fun q hq => by
      by_cases e : q = i
      · rw [e, hm]; exact hb1
      · exact hinv2 q (by omega)⟩
    refine vc_soundN 1000 ?_
    simp (config := { maxSteps := 2000000 }) only [p1, p2, w1, w2, hnx, how, gmL, hm, hlt, ↓wPre, wPost, wFast, Nat.zero_add, Nat.add_zero, Nat.zero_lt_succ, Nat.min_self, Nat.zero_min, Nat.min_zero, Nat.sub_zero, Nat.zero_mul, Int.le_refl, Nat.le_refl, Nat.lt_irrefl, Nat.mul_one, Bool.false_eq_true, Bool.true_eq_false, decide_true, decide_false, decide_eq_true_eq, decide_eq_false_iff_not, Bool.not_true, Bool.not_false, Bool.not_eq_true', Bool.not_eq_false', Bool.and_true, Bool.true_and, Bool.false_and, beq_self_eq_true, ite_true, ite_false, true_and, and_true, false_and, and_false, not_true_eq_false, not_false_eq_true, false_implies, true_implies, implies_true, eq_self, ne_eq, or_true, true_or, or_false, false_or, Bool.or_false, Bool.or_true, Bool.false_or, Bool.true_or, Int.natCast_nonneg, Int.ofNat_lt, Int.ofNat_le, Int.ofNat_inj, Int.ofNat_zero, ↓reduceIte, reduceIte, Nat.reducePow, Nat.reduceLT, Nat.reduceLeDiff, Nat.reduceEqDiff, Nat.reduceAdd, Nat.reduceMul, Nat.reduceSub, Nat.reduceBEq, reduceCtorEq, sl1, wFacts, gmA]
    refine ⟨by omega, by omega, by omega, by omega, by omega, by omega, by omega, by omega, fun b1 => ret1E rfl rfl (settled_I _) (nogood fun h => ?_), fun b1 => nexti (i + 1) _ (hadd (by unfold isW; exact decide_eq_true b1)) (by omega) (sub_mk rfl (by simp [subL, ints, sl1, I]) (by simp [subT]) (by simp [gmL, ints, intss, sl1]))⟩
    · rcases h.2 with h | h
      · have := h.2 m hmem; simp only [isW, decide_eq_true_eq] at this; exact b1 this
      · have := h.1; omega
  · have p : ((k : Int) ∈ g.goal) = False := eq_false hb
    have p1 : (ow g k = 0) = False := eq_false o0
    have p2 : (ow g k = 1) = True := eq_true (by omega)
    by_cases hz : nx g k = []
    · have hc : nx g k = [] ∨ C.getD k 0 ∈ nx g k := .inl hz
      have p3 : (0 < ((nx g k).length : Int)) = False := eq_false (by rw [hz]; simp)
      simp (config := { maxSteps := 2000000 }) only [p, p1, p2, p3, w1, hnx, how, ↓wPre, wPost, wFast, Nat.zero_add, Nat.add_zero, Nat.zero_lt_succ, Nat.min_self, Nat.zero_min, Nat.min_zero, Nat.sub_zero, Nat.zero_mul, Int.le_refl, Nat.le_refl, Nat.lt_irrefl, Nat.mul_one, Bool.false_eq_true, Bool.true_eq_false, decide_true, decide_false, decide_eq_true_eq, decide_eq_false_iff_not, Bool.not_true, Bool.not_false, Bool.not_eq_true', Bool.not_eq_false', Bool.and_true, Bool.true_and, Bool.false_and, beq_self_eq_true, ite_true, ite_false, true_and, and_true, false_and, and_false, not_true_eq_false, not_false_eq_true, false_implies, true_implies, implies_true, eq_self, ne_eq, or_true, true_or, or_false, false_or, Bool.or_false, Bool.or_true, Bool.false_or, Bool.true_or, Int.natCast_nonneg, Int.ofNat_lt, Int.ofNat_le, Int.ofNat_inj, Int.ofNat_zero, ↓reduceIte, reduceIte, Nat.reducePow, Nat.reduceLT, Nat.reduceLeDiff, Nat.reduceEqDiff, Nat.reduceAdd, Nat.reduceMul, Nat.reduceSub, Nat.reduceBEq, reduceCtorEq, sl1, wFacts, gmA]
      refine ⟨by omega, by omega, by omega, by omega, ?_⟩
      refine run_loop (fun i : Nat => ⟨14, [], [.any, .any, ints R, ints C, .ref 0 0 0, .any, .any, .any, .any, .any, I g.own.length, I k, I i, .any], [], [.row 0 4 (ofL (gmL g))]⟩) (fun i => i ≤ (nx g k).length ∧ ∀ q, q < i → (nx g k).getD q 0 = C.getD k 0 → isW R ((nx g k).getD q 0) = true) (fun i => (nx g k).length - i) 0 ⟨by omega, fun q hq => by omega⟩
        (sub_mk rfl (by simp [subL, ints, sl1, I]) (by simp [subT]) (by simp [gmL, ints, intss, sl1])) ?_
      rintro i ⟨hi, hinv2⟩ nexti
      have w2 := wj i (by omega)
      by_cases hi' : i < (nx g k).length
      rotate_left
      · have hlt : (i < (nx g k).length) = False := eq_false hi'
        refine vc_soundN 1000 ?_
        simp (config := { maxSteps := 2000000 }) only [p1, p2, w1, w2, hnx, how, gmL, hlt, ↓wPre, wPost, wFast, Nat.zero_add, Nat.add_zero, Nat.zero_lt_succ, Nat.min_self, Nat.zero_min, Nat.min_zero, Nat.sub_zero, Nat.zero_mul, Int.le_refl, Nat.le_refl, Nat.lt_irrefl, Nat.mul_one, Bool.false_eq_true, Bool.true_eq_false, decide_true, decide_false, decide_eq_true_eq, decide_eq_false_iff_not, Bool.not_true, Bool.not_false, Bool.not_eq_true', Bool.not_eq_false', Bool.and_true, Bool.true_and, Bool.false_and, beq_self_eq_true, ite_true, ite_false, true_and, and_true, false_and, and_false, not_true_eq_false, not_false_eq_true, false_implies, true_implies, implies_true, eq_self, ne_eq, or_true, true_or, or_false, false_or, Bool.or_false, Bool.or_true, Bool.false_or, Bool.true_or, Int.natCast_nonneg, Int.ofNat_lt, Int.ofNat_le, Int.ofNat_inj, Int.ofNat_zero, ↓reduceIte, reduceIte, Nat.reducePow, Nat.reduceLT, Nat.reduceLeDiff, Nat.reduceEqDiff, Nat.reduceAdd, Nat.reduceMul, Nat.reduceSub, Nat.reduceBEq, reduceCtorEq, sl1, wFacts, gmA]
        refine ⟨by omega, by omega, ?_⟩
        have hokk : okW g R C k := by
          refine ⟨hb, .inr ⟨by omega, ?_⟩⟩
          rcases hc with hc | hc
          · exact .inl hc
          · right
            refine ⟨hc, ?_⟩
            obtain ⟨q, hq, he⟩ := List.getElem_of_mem hc
            have he' : (nx g k).getD q 0 = C.getD k 0 := by rw [List.getD_eq_getElem?_getD, List.getElem?_eq_getElem hq]; exact he
            rw [← he']
            exact hinv2 q (by omega) he'
        exact next (k + 1) _ (go (.inr (.inr hokk))) (by omega) (sub_mk rfl (by simp [subL, ints, sl1, I]) (by simp [subT]) (by simp [gmL, ints, intss, sl1]))
      have hlt : (i < (nx g k).length) = True := eq_true hi'
      obtain ⟨m, hm⟩ : ∃ m, (nx g k).getD i 0 = m := ⟨_, rfl⟩
      have hmem : m ∈ nx g k := by rw [← hm]; exact getD_mem hi'
      have hin := rising_mem hris hmem
      have hadd : (m = C.getD k 0 → isW R m = true) → i + 1 ≤ (nx g k).length ∧ ∀ q, q < i + 1 → (nx g k).getD q 0 = C.getD k 0 → isW R ((nx g k).getD q 0) = true := fun hb1 => ⟨by omega, fun q hq => by
        by_cases e : q = i
        · rw [e, hm]; exact hb1
        · exact hinv2 q (by omega)⟩
      refine vc_soundN 1000 ?_
      simp (config := { maxSteps := 2000000 }) only [p1, p2, w1, w2, hnx, how, gmL, hm, hlt, ↓wPre, wPost, wFast, Nat.zero_add, Nat.add_zero, Nat.zero_lt_succ, Nat.min_self, Nat.zero_min, Nat.min_zero, Nat.sub_zero, Nat.zero_mul, Int.le_refl, Nat.le_refl, Nat.lt_irrefl, Nat.mul_one, Bool.false_eq_true, Bool.true_eq_false, decide_true, decide_false, decide_eq_true_eq, decide_eq_false_iff_not, Bool.not_true, Bool.not_false, Bool.not_eq_true', Bool.not_eq_false', Bool.and_true, Bool.true_and, Bool.false_and, beq_self_eq_true, ite_true, ite_false, true_and, and_true, false_and, and_false, not_true_eq_false, not_false_eq_true, false_implies, true_implies, implies_true, eq_self, ne_eq, or_true, true_or, or_false, false_or, Bool.or_false, Bool.or_true, Bool.false_or, Bool.true_or, Int.natCast_nonneg, Int.ofNat_lt, Int.ofNat_le, Int.ofNat_inj, Int.ofNat_zero, ↓reduceIte, reduceIte, Nat.reducePow, Nat.reduceLT, Nat.reduceLeDiff, Nat.reduceEqDiff, Nat.reduceAdd, Nat.reduceMul, Nat.reduceSub, Nat.reduceBEq, reduceCtorEq, sl1, wFacts, gmA]
      refine ⟨by omega, by omega, by omega, by omega, by omega, by omega, by omega, by omega, fun em => ⟨by omega, by omega, fun b1 => ret1E rfl rfl (settled_I _) (nogood fun h => ?_), fun b1 => nexti (i + 1) _ (hadd fun _ => by unfold isW; exact decide_eq_true b1) (by omega) (sub_mk rfl (by simp [subL, ints, sl1, I]) (by simp [subT]) (by simp [gmL, ints, intss, sl1]))⟩, fun em => nexti (i + 1) _ (hadd fun e => absurd e em) (by omega) (sub_mk rfl (by simp [subL, ints, sl1, I]) (by simp [subT]) (by simp [gmL, ints, intss, sl1]))⟩
      · rcases h.2 with h | h
        · exact o0 h.1
        · rcases h.2 with h | h
          · rw [h] at hmem; cases hmem
          · have := h.2; rw [← em] at this; simp only [isW, decide_eq_true_eq] at this; exact b1 this
    · have p3' : 0 < (nx g k).length := List.length_pos_iff.2 hz
      have p3 : (0 < ((nx g k).length : Int)) = True := eq_true (by omega)
      simp (config := { maxSteps := 2000000 }) only [p, p1, p2, p3, w1, hnx, how, ↓wPre, wPost, wFast, Nat.zero_add, Nat.add_zero, Nat.zero_lt_succ, Nat.min_self, Nat.zero_min, Nat.min_zero, Nat.sub_zero, Nat.zero_mul, Int.le_refl, Nat.le_refl, Nat.lt_irrefl, Nat.mul_one, Bool.false_eq_true, Bool.true_eq_false, decide_true, decide_false, decide_eq_true_eq, decide_eq_false_iff_not, Bool.not_true, Bool.not_false, Bool.not_eq_true', Bool.not_eq_false', Bool.and_true, Bool.true_and, Bool.false_and, beq_self_eq_true, ite_true, ite_false, true_and, and_true, false_and, and_false, not_true_eq_false, not_false_eq_true, false_implies, true_implies, implies_true, eq_self, ne_eq, or_true, true_or, or_false, false_or, Bool.or_false, Bool.or_true, Bool.false_or, Bool.true_or, Int.natCast_nonneg, Int.ofNat_lt, Int.ofNat_le, Int.ofNat_inj, Int.ofNat_zero, ↓reduceIte, reduceIte, Nat.reducePow, Nat.reduceLT, Nat.reduceLeDiff, Nat.reduceEqDiff, Nat.reduceAdd, Nat.reduceMul, Nat.reduceSub, Nat.reduceBEq, reduceCtorEq, sl1, wFacts, gmA]
      refine ⟨by omega, by omega, by omega, by omega, by omega, by omega, by omega, by omega, call_fn (has_fn (nx g k) (C.getD k 0) (by omega)) rfl ?_⟩
      simp (config := { maxSteps := 2000000 }) only [p, p1, p2, p3, w1, hnx, how, ↓wPre, wPost, wFast, Nat.zero_add, Nat.add_zero, Nat.zero_lt_succ, Nat.min_self, Nat.zero_min, Nat.min_zero, Nat.sub_zero, Nat.zero_mul, Int.le_refl, Nat.le_refl, Nat.lt_irrefl, Nat.mul_one, Bool.false_eq_true, Bool.true_eq_false, decide_true, decide_false, decide_eq_true_eq, decide_eq_false_iff_not, Bool.not_true, Bool.not_false, Bool.not_eq_true', Bool.not_eq_false', Bool.and_true, Bool.true_and, Bool.false_and, beq_self_eq_true, ite_true, ite_false, true_and, and_true, false_and, and_false, not_true_eq_false, not_false_eq_true, false_implies, true_implies, implies_true, eq_self, ne_eq, or_true, true_or, or_false, false_or, Bool.or_false, Bool.or_true, Bool.false_or, Bool.true_or, Int.natCast_nonneg, Int.ofNat_lt, Int.ofNat_le, Int.ofNat_inj, Int.ofNat_zero, ↓reduceIte, reduceIte, Nat.reducePow, Nat.reduceLT, Nat.reduceLeDiff, Nat.reduceEqDiff, Nat.reduceAdd, Nat.reduceMul, Nat.reduceSub, Nat.reduceBEq, reduceCtorEq, sl1, wFacts, gmA]
      refine ⟨fun hc => ret1E rfl rfl (settled_I _) (nogood fun h => ?_), fun hc0 => ?_⟩
      · rcases h.2 with h | h
        · exact o0 h.1
        · rcases h.2 with h | h
          · exact hz h
          · exact hc h.1
      have hc : nx g k = [] ∨ C.getD k 0 ∈ nx g k := .inr hc0
      refine run_loop (fun i : Nat => ⟨14, [], [.any, .any, ints R, ints C, .ref 0 0 0, .any, .any, .any, .any, .any, I g.own.length, I k, I i, .any], [], [.row 0 4 (ofL (gmL g))]⟩) (fun i => i ≤ (nx g k).length ∧ ∀ q, q < i → (nx g k).getD q 0 = C.getD k 0 → isW R ((nx g k).getD q 0) = true) (fun i => (nx g k).length - i) 0 ⟨by omega, fun q hq => by omega⟩
        (sub_mk rfl (by simp [subL, ints, sl1, I]) (by simp [subT]) (by simp [gmL, ints, intss, sl1])) ?_
      rintro i ⟨hi, hinv2⟩ nexti
      have w2 := wj i (by omega)
      by_cases hi' : i < (nx g k).length
      rotate_left
      · have hlt : (i < (nx g k).length) = False := eq_false hi'
        refine vc_soundN 1000 ?_
        simp (config := { maxSteps := 2000000 }) only [p1, p2, w1, w2, hnx, how, gmL, hlt, ↓wPre, wPost, wFast, Nat.zero_add, Nat.add_zero, Nat.zero_lt_succ, Nat.min_self, Nat.zero_min, Nat.min_zero, Nat.sub_zero, Nat.zero_mul, Int.le_refl, Nat.le_refl, Nat.lt_irrefl, Nat.mul_one, Bool.false_eq_true, Bool.true_eq_false, decide_true, decide_false, decide_eq_true_eq, decide_eq_false_iff_not, Bool.not_true, Bool.not_false, Bool.not_eq_true', Bool.not_eq_false', Bool.and_true, Bool.true_and, Bool.false_and, beq_self_eq_true, ite_true, ite_false, true_and, and_true, false_and, and_false, not_true_eq_false, not_false_eq_true, false_implies, true_implies, implies_true, eq_self, ne_eq, or_true, true_or, or_false, false_or, Bool.or_false, Bool.or_true, Bool.false_or, Bool.true_or, Int.natCast_nonneg, Int.ofNat_lt, Int.ofNat_le, Int.ofNat_inj, Int.ofNat_zero, ↓reduceIte, reduceIte, Nat.reducePow, Nat.reduceLT, Nat.reduceLeDiff, Nat.reduceEqDiff, Nat.reduceAdd, Nat.reduceMul, Nat.reduceSub, Nat.reduceBEq, reduceCtorEq, sl1, wFacts, gmA]
        refine ⟨by omega, by omega, ?_⟩
        have hokk : okW g R C k := by
          refine ⟨hb, .inr ⟨by omega, ?_⟩⟩
          rcases hc with hc | hc
          · exact .inl hc
          · right
            refine ⟨hc, ?_⟩
            obtain ⟨q, hq, he⟩ := List.getElem_of_mem hc
            have he' : (nx g k).getD q 0 = C.getD k 0 := by rw [List.getD_eq_getElem?_getD, List.getElem?_eq_getElem hq]; exact he
            rw [← he']
            exact hinv2 q (by omega) he'
        exact next (k + 1) _ (go (.inr (.inr hokk))) (by omega) (sub_mk rfl (by simp [subL, ints, sl1, I]) (by simp [subT]) (by simp [gmL, ints, intss, sl1]))
      have hlt : (i < (nx g k).length) = True := eq_true hi'
      obtain ⟨m, hm⟩ : ∃ m, (nx g k).getD i 0 = m := ⟨_, rfl⟩
      have hmem : m ∈ nx g k := by rw [← hm]; exact getD_mem hi'
      have hin := rising_mem hris hmem
      have hadd : (m = C.getD k 0 → isW R m = true) → i + 1 ≤ (nx g k).length ∧ ∀ q, q < i + 1 → (nx g k).getD q 0 = C.getD k 0 → isW R ((nx g k).getD q 0) = true := fun hb1 => ⟨by omega, fun q hq => by
        by_cases e : q = i
        · rw [e, hm]; exact hb1
        · exact hinv2 q (by omega)⟩
      refine vc_soundN 1000 ?_
      simp (config := { maxSteps := 2000000 }) only [p1, p2, w1, w2, hnx, how, gmL, hm, hlt, ↓wPre, wPost, wFast, Nat.zero_add, Nat.add_zero, Nat.zero_lt_succ, Nat.min_self, Nat.zero_min, Nat.min_zero, Nat.sub_zero, Nat.zero_mul, Int.le_refl, Nat.le_refl, Nat.lt_irrefl, Nat.mul_one, Bool.false_eq_true, Bool.true_eq_false, decide_true, decide_false, decide_eq_true_eq, decide_eq_false_iff_not, Bool.not_true, Bool.not_false, Bool.not_eq_true', Bool.not_eq_false', Bool.and_true, Bool.true_and, Bool.false_and, beq_self_eq_true, ite_true, ite_false, true_and, and_true, false_and, and_false, not_true_eq_false, not_false_eq_true, false_implies, true_implies, implies_true, eq_self, ne_eq, or_true, true_or, or_false, false_or, Bool.or_false, Bool.or_true, Bool.false_or, Bool.true_or, Int.natCast_nonneg, Int.ofNat_lt, Int.ofNat_le, Int.ofNat_inj, Int.ofNat_zero, ↓reduceIte, reduceIte, Nat.reducePow, Nat.reduceLT, Nat.reduceLeDiff, Nat.reduceEqDiff, Nat.reduceAdd, Nat.reduceMul, Nat.reduceSub, Nat.reduceBEq, reduceCtorEq, sl1, wFacts, gmA]
      refine ⟨by omega, by omega, by omega, by omega, by omega, by omega, by omega, by omega, fun em => ⟨by omega, by omega, fun b1 => ret1E rfl rfl (settled_I _) (nogood fun h => ?_), fun b1 => nexti (i + 1) _ (hadd fun _ => by unfold isW; exact decide_eq_true b1) (by omega) (sub_mk rfl (by simp [subL, ints, sl1, I]) (by simp [subT]) (by simp [gmL, ints, intss, sl1]))⟩, fun em => nexti (i + 1) _ (hadd fun e => absurd e em) (by omega) (sub_mk rfl (by simp [subL, ints, sl1, I]) (by simp [subT]) (by simp [gmL, ints, intss, sl1]))⟩
      · rcases h.2 with h | h
        · exact o0 h.1
        · rcases h.2 with h | h
          · rw [h] at hmem; cases hmem
          · have := h.2; rw [← em] at this; simp only [isW, decide_eq_true_eq] at this; exact b1 this
end
end Go.Ab.G
