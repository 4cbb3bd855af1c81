/- Contracts of functions of this chapter, for every argument that fits, and what they need. -/
import Derived.Test.YtlhlhpgcjjhjkaaG11
set_option linter.unusedSimpArgs false
set_option linter.unusedVariables false
namespace Go.Ab.G
open Go Go.RowKit Go.Proofs
noncomputable section
set_option maxRecDepth 10000
set_option maxHeartbeats 2000000
set_option linter.unusedSimpArgs false
set_option linter.unusedVariables false
open Classical


/-! ### CheckCounter -/
def isW (W : List Int) (m : Int) : Bool := decide (W.getD m.toNat 0 = 1)
def okW (g : Gm) (W C : List Int) (k : Nat) : Prop := (k : Int) ∉ g.goal ∧ ((ow g k = 0 ∧ ∀ m ∈ nx g k, isW W m = true) ∨ (ow g k = 1 ∧ (nx g k = [] ∨ (C.getD k 0 ∈ nx g k ∧ isW W (C.getD k 0) = true))))
def nodeW (g : Gm) (W C : List Int) (k : Nat) : Prop := W.getD k 0 ≠ 1 ∨ (k : Int) ∈ g.bad ∨ okW g W C k
def fitW (g : Gm) (fr : Int) (W C : List Int) : Prop := W.length = g.n ∧ C.length = g.n ∧ 0 ≤ fr ∧ fr < g.n ∧ W.getD fr.toNat 0 = 1
def checkW (g : Gm) (fr : Int) (W C : List Int) : Int := if validF g ≠ 0 then validF g else if fitW g fr W C ∧ ∀ k, k < g.n → nodeW g W C k then 0 else 22
theorem cc1_fn (W : List Int) (m : Int) (hm : 0 ≤ m ∧ m < W.length) : Fn Try.prog 42 [I m, .ptr 1 (ofL [ints W]) 0] (.bool (!isW W m)) := by
  refine Fn.intro (fn := Try.f42) Try.call42 Try.func42 rfl mixed 4 [] [] [] (by kernel_rfl) (Nat.le_of_ble_eq_true rfl) (by simp [settled_I, settled_pone, settled_ints]) (vc_soundN 1000 ?_)
  simp only [AS.start, ↓wPre, wPost, wFast, Nat.zero_add, Nat.add_zero, Nat.zero_lt_succ, Nat.min_self, Nat.zero_min, Nat.min_zero, Nat.sub_zero, Nat.zero_mul, Int.le_refl, Nat.le_refl, Nat.lt_irrefl, Nat.mul_one, Bool.false_eq_true, Bool.true_eq_false, decide_true, decide_false, decide_eq_true_eq, decide_eq_false_iff_not, Bool.not_true, Bool.not_false, Bool.not_eq_true', Bool.not_eq_false', Bool.and_true, Bool.true_and, Bool.false_and, beq_self_eq_true, ite_true, ite_false, true_and, and_true, false_and, and_false, not_true_eq_false, not_false_eq_true, false_implies, true_implies, implies_true, eq_self, ne_eq, or_true, true_or, or_false, false_or, Bool.or_false, Bool.or_true, Bool.false_or, Bool.true_or, Int.natCast_nonneg, Int.ofNat_lt, Int.ofNat_le, Int.ofNat_inj, Int.ofNat_zero, ↓reduceIte, reduceIte, Nat.reducePow, Nat.reduceLT, Nat.reduceLeDiff, Nat.reduceEqDiff, Nat.reduceAdd, Nat.reduceMul, Nat.reduceSub, Nat.reduceBEq, reduceCtorEq, sl1, wFacts, gmA]
  refine ⟨hm, by omega, ret1E (v := .bool (!decide (W.getD m.toNat 0 = 1))) rfl rfl (settled_bool _) rfl⟩
theorem bel_w (C : List Int) (n : Nat) : ∀ a ∈ [AV.any, .any, .any, ints C, .ref 0 0 0, .any, .ref 1 0 0, .any, .any, .any, I n, .ref 2 0 0, .any, .any], Bel 3 a := by
  intro a ha
  simp only [List.mem_cons, List.not_mem_nil, or_false] at ha
  rcases ha with rfl | rfl | rfl | rfl | rfl | rfl | rfl | rfl | rfl | rfl | rfl | rfl | rfl | rfl
  all_goals first | exact bel_any _ | exact bel_ref (by omega) | exact bel_I _ _ | exact bel_of_settled (settled_ints _)

theorem checkw_fn (g : Gm) (hs : smallG g) (fr : Int) (R C : List Int) (hR : R.length < 9223372036854775808) (hC : C.length < 9223372036854775808) : Fn Try.prog 23 [gmA g, I fr, ints R, ints C] (I (checkW g fr R C)) := by
  have hs' := hs
  obtain ⟨s1, s2, s3, s4, s5⟩ := hs
  obtain ⟨V, hV⟩ : ∃ V, V = checkW g fr R C := ⟨_, rfl⟩
  rw [← hV]
  unfold checkW at hV
  refine Fn.intro (fn := Try.f23) Try.call23 Try.func23 rfl mixed 14 [50, 51] [] [] (by kernel_rfl) (Nat.le_of_ble_eq_true rfl) (by simp [settled_ints, settled_I, settled_fn0, settled_intss, settled_bool, settled_nil, settled_gmA]) (vc_soundN 1000 ?_); simp (config := { maxSteps := 2000000 }) only [AS.start, ↓wPre, wPost, wFast, Nat.zero_add, Nat.add_zero, Nat.zero_lt_succ, Nat.min_self, Nat.zero_min, Nat.min_zero, Nat.sub_zero, Nat.zero_mul, Int.le_refl, Nat.le_refl, Nat.lt_irrefl, Nat.mul_one, Bool.false_eq_true, Bool.true_eq_false, decide_true, decide_false, decide_eq_true_eq, decide_eq_false_iff_not, Bool.not_true, Bool.not_false, Bool.not_eq_true', Bool.not_eq_false', Bool.and_true, Bool.true_and, Bool.false_and, beq_self_eq_true, ite_true, ite_false, true_and, and_true, false_and, and_false, not_true_eq_false, not_false_eq_true, false_implies, true_implies, implies_true, eq_self, ne_eq, or_true, true_or, or_false, false_or, Bool.or_false, Bool.or_true, Bool.false_or, Bool.true_or, Int.natCast_nonneg, Int.ofNat_lt, Int.ofNat_le, Int.ofNat_inj, Int.ofNat_zero, ↓reduceIte, reduceIte, Nat.reducePow, Nat.reduceLT, Nat.reduceLeDiff, Nat.reduceEqDiff, Nat.reduceAdd, Nat.reduceMul, Nat.reduceSub, Nat.reduceBEq, reduceCtorEq, sl1, wFacts, gmA]
  refine call_fn (valid_fn g hs') rfl ?_
  simp only [gmL, ↓wPre, wPost, wFast, Nat.zero_add, Nat.add_zero, Nat.zero_lt_succ, Nat.min_self, Nat.zero_min, Nat.min_zero, Nat.sub_zero, Nat.zero_mul, Int.le_refl, Nat.le_refl, Nat.lt_irrefl, Nat.mul_one, Bool.false_eq_true, Bool.true_eq_false, decide_true, decide_false, decide_eq_true_eq, decide_eq_false_iff_not, Bool.not_true, Bool.not_false, Bool.not_eq_true', Bool.not_eq_false', Bool.and_true, Bool.true_and, Bool.false_and, beq_self_eq_true, ite_true, ite_false, true_and, and_true, false_and, and_false, not_true_eq_false, not_false_eq_true, false_implies, true_implies, implies_true, eq_self, ne_eq, or_true, true_or, or_false, false_or, Bool.or_false, Bool.or_true, Bool.false_or, Bool.true_or, Int.natCast_nonneg, Int.ofNat_lt, Int.ofNat_le, Int.ofNat_inj, Int.ofNat_zero, ↓reduceIte, reduceIte, Nat.reducePow, Nat.reduceLT, Nat.reduceLeDiff, Nat.reduceEqDiff, Nat.reduceAdd, Nat.reduceMul, Nat.reduceSub, Nat.reduceBEq, reduceCtorEq, sl1, wFacts, gmA]
  refine ⟨fun hv => ret1E (v := I (validF g)) rfl rfl (settled_I _) (by rw [hV, if_pos hv]), fun hv => ?_⟩
  rw [if_neg (by simpa using hv)] at hV
  have hv0 : validF g = 0 := by simpa using hv
  obtain ⟨hsz, hrest⟩ := valid_ok hv0
  have hsz2 : g.own.length ≤ 4096 := hsz.2
  have hn : g.n = g.own.length := rfl
  have hnl : g.nxt.length = g.own.length := hrest.1
  have bad : ¬ fitW g fr R C → I 22 = I V := fun h => by rw [hV, if_neg fun h' => h h'.1]
  refine ⟨fun q1 => ret1E rfl rfl (settled_I _) (bad fun h => q1 h.1), fun q1 => ⟨fun q2 => ret1E rfl rfl (settled_I _) (bad fun h => q2 h.2.1), fun q2 => ⟨fun q3 => ret1E rfl rfl (settled_I _) (bad fun h => by have := h.2.2.1; omega), fun q3 => ⟨fun q4 => ret1E rfl rfl (settled_I _) (bad fun h => by have := h.2.2.2.1; omega), fun q4 => ⟨⟨by omega, by omega⟩, by omega, fun q5 => ret1E rfl rfl (settled_I _) (bad fun h => q5 h.2.2.2.2), fun q5 => ?_⟩⟩⟩⟩⟩
  have hfit : fitW g fr R C := ⟨by omega, by omega, by omega, by omega, q5⟩
  have no : ∀ k, k < g.n → ¬ nodeW g R C k → I 22 = I V := fun k hk h => by rw [hV, if_neg fun h' => h (h'.2 k hk)]
  refine call_fn (of_fn g hs') rfl ?_
  simp only [bdA, ↓wPre, wPost, wFast, Nat.zero_add, Nat.add_zero, Nat.zero_lt_succ, Nat.min_self, Nat.zero_min, Nat.min_zero, Nat.sub_zero, Nat.zero_mul, Int.le_refl, Nat.le_refl, Nat.lt_irrefl, Nat.mul_one, Bool.false_eq_true, Bool.true_eq_false, decide_true, decide_false, decide_eq_true_eq, decide_eq_false_iff_not, Bool.not_true, Bool.not_false, Bool.not_eq_true', Bool.not_eq_false', Bool.and_true, Bool.true_and, Bool.false_and, beq_self_eq_true, ite_true, ite_false, true_and, and_true, false_and, and_false, not_true_eq_false, not_false_eq_true, false_implies, true_implies, implies_true, eq_self, ne_eq, or_true, true_or, or_false, false_or, Bool.or_false, Bool.or_true, Bool.false_or, Bool.true_or, Int.natCast_nonneg, Int.ofNat_lt, Int.ofNat_le, Int.ofNat_inj, Int.ofNat_zero, ↓reduceIte, reduceIte, Nat.reducePow, Nat.reduceLT, Nat.reduceLeDiff, Nat.reduceEqDiff, Nat.reduceAdd, Nat.reduceMul, Nat.reduceSub, Nat.reduceBEq, reduceCtorEq, sl1, wFacts, gmA]
  refine run_loop (fun k : Nat => ⟨14, [50, 51], [.any, .any, .any, ints C, .ref 0 0 0, .any, .ref 1 0 0, .any, .any, .any, I g.own.length, .ref 2 0 0, .any, .any], [(50, I g.own.length), (51, I k)],
    [.row 0 4 (ofL (gmL g)), .row 0 1 (ofL [ints R]), .row 0 6 (ofL (bdL g))]⟩) (fun k => k ≤ g.own.length ∧ ∀ j, j < k → nodeW g R C j) (fun k => g.own.length - k) 0 ⟨by omega, fun j hj => by omega⟩
    (sub_mk rfl (by simp [subL, ints, sl1, I]) (by simp [subT, look, I]) (by simp [gmL, bdL, ints, intss, sl1])) ?_
  rintro k ⟨hk, hinv⟩ next
  have w1 := wj k (by omega)
  refine vc_soundN 1000 ?_
  simp (config := { maxSteps := 2000000 }) only [w1, gmL, bdL, ↓wPre, wPost, wFast, Nat.zero_add, Nat.add_zero, Nat.zero_lt_succ, Nat.min_self, Nat.zero_min, Nat.min_zero, Nat.sub_zero, Nat.zero_mul, Int.le_refl, Nat.le_refl, Nat.lt_irrefl, Nat.mul_one, Bool.false_eq_true, Bool.true_eq_false, decide_true, decide_false, decide_eq_true_eq, decide_eq_false_iff_not, Bool.not_true, Bool.not_false, Bool.not_eq_true', Bool.not_eq_false', Bool.and_true, Bool.true_and, Bool.false_and, beq_self_eq_true, ite_true, ite_false, true_and, and_true, false_and, and_false, not_true_eq_false, not_false_eq_true, false_implies, true_implies, implies_true, eq_self, ne_eq, or_true, true_or, or_false, false_or, Bool.or_false, Bool.or_true, Bool.false_or, Bool.true_or, Int.natCast_nonneg, Int.ofNat_lt, Int.ofNat_le, Int.ofNat_inj, Int.ofNat_zero, ↓reduceIte, reduceIte, Nat.reducePow, Nat.reduceLT, Nat.reduceLeDiff, Nat.reduceEqDiff, Nat.reduceAdd, Nat.reduceMul, Nat.reduceSub, Nat.reduceBEq, reduceCtorEq, sl1, wFacts, gmA]
  refine ⟨fun h => ?_, fun h => ret1E (v := I 0) rfl rfl (settled_I _) (by rw [hV, if_pos ⟨hfit, fun k hk => hinv k (by omega)⟩])⟩
  have hkn : k < g.n := h
  have hnx : g.nxt.getD k [] = nx g k := rfl
  have how : g.own.getD k 0 = ow g k := rfl
  have hris := (hrest.2.2.2 k hkn).2.1
  have ho01 := (hrest.2.2.2 k hkn).1
  have hnxl : (nx g k).length ≤ g.own.length := rising_len hris
  have go : nodeW g R C k → k + 1 ≤ g.own.length ∧ ∀ j, j < k + 1 → nodeW g R C j := fun hc => ⟨by omega, fun j hj => by
    by_cases e : j = k
    · rw [e]; exact hc
    · exact hinv j (by omega)⟩
  have fin : ∀ (a12 a13 : AV) (tm : List (Nat × AV)), nodeW g R C k → (tm = [(51, .int .i64 (k + 1 : Nat)), (116, .int .i64 (k + 1 : Nat)), (50, .int .i64 g.own.length), (51, .int .i64 k)]) →
      Run (envP Try.prog Try.f23 [] [] (I V)) _ ⟨14, [50, 51], [.any, .any, .any, .sl C.length C.length (slF I 0 C) false, .ref 0 0 0, .any, .ref 1 0 0, .any, .any, .any, .int .i64 g.own.length, .ref 2 0 0, a12, a13], tm,
        [.row 0 4 (ofL [.sl g.own.length g.own.length (slF I 0 g.own) false, .sl g.nxt.length g.nxt.length (slF ints [] g.nxt) false, .sl g.goal.length g.goal.length (slF I 0 g.goal) false, .sl g.bad.length g.bad.length (slF I 0 g.bad) false]), .row 0 1 (ofL [.sl R.length R.length (slF I 0 R) false]),
         .row 0 6 (ofL [.sl g.own.length g.own.length (slF I 0 g.own) false, .sl g.nxt.length g.nxt.length (slF ints [] g.nxt) false, .sl g.goal.length g.goal.length (slF I 0 g.goal) false, .sl g.bad.length g.bad.length (slF I 0 g.bad) false, .cmap .i64 (mapG g.goal), .cmap .i64 (mapG g.bad)])]⟩ := fun a12 a13 tm hc htm =>
    next (k + 1) _ (go hc) (by omega) (sub_mk rfl (by simp [subL, ints, sl1, I]) (by rw [htm]; simp [subT, look, I]) (by simp [gmL, bdL, ints, intss, sl1]))
  refine ⟨by omega, by omega, fun e1 => fin _ _ _ (.inl e1) rfl, fun e1 => ?_⟩
  by_cases hb : (k : Int) ∈ g.bad
  · have hgm : mapG g.bad k = some (.bool true) := if_pos hb
    simp (config := { maxSteps := 2000000 }) only [hgm, cst0_bool, w1, ↓wPre, wPost, wFast, Nat.zero_add, Nat.add_zero, Nat.zero_lt_succ, Nat.min_self, Nat.zero_min, Nat.min_zero, Nat.sub_zero, Nat.zero_mul, Int.le_refl, Nat.le_refl, Nat.lt_irrefl, Nat.mul_one, Bool.false_eq_true, Bool.true_eq_false, decide_true, decide_false, decide_eq_true_eq, decide_eq_false_iff_not, Bool.not_true, Bool.not_false, Bool.not_eq_true', Bool.not_eq_false', Bool.and_true, Bool.true_and, Bool.false_and, beq_self_eq_true, ite_true, ite_false, true_and, and_true, false_and, and_false, not_true_eq_false, not_false_eq_true, false_implies, true_implies, implies_true, eq_self, ne_eq, or_true, true_or, or_false, false_or, Bool.or_false, Bool.or_true, Bool.false_or, Bool.true_or, Int.natCast_nonneg, Int.ofNat_lt, Int.ofNat_le, Int.ofNat_inj, Int.ofNat_zero, ↓reduceIte, reduceIte, Nat.reducePow, Nat.reduceLT, Nat.reduceLeDiff, Nat.reduceEqDiff, Nat.reduceAdd, Nat.reduceMul, Nat.reduceSub, Nat.reduceBEq, reduceCtorEq, sl1, wFacts, gmA]
    exact fin _ _ _ (.inr (.inl hb)) rfl
  have hgm : mapG g.bad k = none := if_neg hb
  simp (config := { maxSteps := 2000000 }) only [hgm, cst0_bool, w1, how, hnx, ↓wPre, wPost, wFast, Nat.zero_add, Nat.add_zero, Nat.zero_lt_succ, Nat.min_self, Nat.zero_min, Nat.min_zero, Nat.sub_zero, Nat.zero_mul, Int.le_refl, Nat.le_refl, Nat.lt_irrefl, Nat.mul_one, Bool.false_eq_true, Bool.true_eq_false, decide_true, decide_false, decide_eq_true_eq, decide_eq_false_iff_not, Bool.not_true, Bool.not_false, Bool.not_eq_true', Bool.not_eq_false', Bool.and_true, Bool.true_and, Bool.false_and, beq_self_eq_true, ite_true, ite_false, true_and, and_true, false_and, and_false, not_true_eq_false, not_false_eq_true, false_implies, true_implies, implies_true, eq_self, ne_eq, or_true, true_or, or_false, false_or, Bool.or_false, Bool.or_true, Bool.false_or, Bool.true_or, Int.natCast_nonneg, Int.ofNat_lt, Int.ofNat_le, Int.ofNat_inj, Int.ofNat_zero, ↓reduceIte, reduceIte, Nat.reducePow, Nat.reduceLT, Nat.reduceLeDiff, Nat.reduceEqDiff, Nat.reduceAdd, Nat.reduceMul, Nat.reduceSub, Nat.reduceBEq, reduceCtorEq, sl1, wFacts, gmA]
  have hCk : C.length = g.own.length := by omega
  have hRk : R.length = g.own.length := by omega
  have nogood : ¬ okW g R C k → I 22 = I V := fun hok => no k hkn fun hc => by
    rcases hc with hc | hc | hc
    · exact hc e1
    · exact hb hc
    · exact hok hc
  refine ⟨h, h, fun o0 => ⟨by omega, by omega, ?_⟩, fun o0 => ⟨by omega, by omega, fun l0 => ?_, fun l0 => ⟨by omega, by omega, by omega, by omega, call_fn (contains_fn (nx g k) (C.getD k 0) (by omega)) rfl ?_⟩⟩⟩
  · refine call_lent (containsf_fn (nx g k) 42 [.ptr 1 (ofL [ints R]) 0] (fun m => !isW R m) (by omega) (by simp [settled_pone, settled_ints]) (fun x hx => cc1_fn R x (by have := rising_mem hris hx; omega))) rfl
      ⟨(settled_ints _).sees _, sees_fn ⟨sees_one (settled_ints R) rfl, trivial⟩, trivial⟩ (flat_bool _) ?_
    simp (config := { maxSteps := 2000000 }) only [w1, ↓wPre, wPost, wFast, Nat.zero_add, Nat.add_zero, Nat.zero_lt_succ, Nat.min_self, Nat.zero_min, Nat.min_zero, Nat.sub_zero, Nat.zero_mul, Int.le_refl, Nat.le_refl, Nat.lt_irrefl, Nat.mul_one, Bool.false_eq_true, Bool.true_eq_false, decide_true, decide_false, decide_eq_true_eq, decide_eq_false_iff_not, Bool.not_true, Bool.not_false, Bool.not_eq_true', Bool.not_eq_false', Bool.and_true, Bool.true_and, Bool.false_and, beq_self_eq_true, ite_true, ite_false, true_and, and_true, false_and, and_false, not_true_eq_false, not_false_eq_true, false_implies, true_implies, implies_true, eq_self, ne_eq, or_true, true_or, or_false, false_or, Bool.or_false, Bool.or_true, Bool.false_or, Bool.true_or, Int.natCast_nonneg, Int.ofNat_lt, Int.ofNat_le, Int.ofNat_inj, Int.ofNat_zero, ↓reduceIte, reduceIte, Nat.reducePow, Nat.reduceLT, Nat.reduceLeDiff, Nat.reduceEqDiff, Nat.reduceAdd, Nat.reduceMul, Nat.reduceSub, Nat.reduceBEq, reduceCtorEq, sl1, wFacts, gmA]
    by_cases hg : (k : Int) ∈ g.goal
    · have hgm2 : mapG g.goal k = some (.bool true) := if_pos hg
      simp (config := { maxSteps := 2000000 }) only [hgm2, cst0_bool, w1, ↓wPre, wPost, wFast, Nat.zero_add, Nat.add_zero, Nat.zero_lt_succ, Nat.min_self, Nat.zero_min, Nat.min_zero, Nat.sub_zero, Nat.zero_mul, Int.le_refl, Nat.le_refl, Nat.lt_irrefl, Nat.mul_one, Bool.false_eq_true, Bool.true_eq_false, decide_true, decide_false, decide_eq_true_eq, decide_eq_false_iff_not, Bool.not_true, Bool.not_false, Bool.not_eq_true', Bool.not_eq_false', Bool.and_true, Bool.true_and, Bool.false_and, beq_self_eq_true, ite_true, ite_false, true_and, and_true, false_and, and_false, not_true_eq_false, not_false_eq_true, false_implies, true_implies, implies_true, eq_self, ne_eq, or_true, true_or, or_false, false_or, Bool.or_false, Bool.or_true, Bool.false_or, Bool.true_or, Int.natCast_nonneg, Int.ofNat_lt, Int.ofNat_le, Int.ofNat_inj, Int.ofNat_zero, ↓reduceIte, reduceIte, Nat.reducePow, Nat.reduceLT, Nat.reduceLeDiff, Nat.reduceEqDiff, Nat.reduceAdd, Nat.reduceMul, Nat.reduceSub, Nat.reduceBEq, reduceCtorEq, sl1, wFacts, gmA]
      exact ret1E rfl rfl (settled_I _) (nogood fun h => h.1 hg)
    · have hgm2 : mapG g.goal k = none := if_neg hg
      simp (config := { maxSteps := 2000000 }) only [hgm2, cst0_bool, w1, Bool.not_not, ↓wPre, wPost, wFast, Nat.zero_add, Nat.add_zero, Nat.zero_lt_succ, Nat.min_self, Nat.zero_min, Nat.min_zero, Nat.sub_zero, Nat.zero_mul, Int.le_refl, Nat.le_refl, Nat.lt_irrefl, Nat.mul_one, Bool.false_eq_true, Bool.true_eq_false, decide_true, decide_false, decide_eq_true_eq, decide_eq_false_iff_not, Bool.not_true, Bool.not_false, Bool.not_eq_true', Bool.not_eq_false', Bool.and_true, Bool.true_and, Bool.false_and, beq_self_eq_true, ite_true, ite_false, true_and, and_true, false_and, and_false, not_true_eq_false, not_false_eq_true, false_implies, true_implies, implies_true, eq_self, ne_eq, or_true, true_or, or_false, false_or, Bool.or_false, Bool.or_true, Bool.false_or, Bool.true_or, Int.natCast_nonneg, Int.ofNat_lt, Int.ofNat_le, Int.ofNat_inj, Int.ofNat_zero, ↓reduceIte, reduceIte, Nat.reducePow, Nat.reduceLT, Nat.reduceLeDiff, Nat.reduceEqDiff, Nat.reduceAdd, Nat.reduceMul, Nat.reduceSub, Nat.reduceBEq, reduceCtorEq, sl1, wFacts, gmA]
      refine guardP_intro (fun ht => ret1E rfl rfl (settled_I _) (nogood fun h => ?_)) (fun hf => fin _ _ _ (.inr (.inr ⟨hg, .inl ⟨o0, fun m hm => ?_⟩⟩)) rfl)
      · rcases h.2 with h | h
        · obtain ⟨m, hm, h2⟩ := List.any_eq_true.1 ht
          rw [h.2 m hm] at h2; cases h2
        · have := h.1; omega
      · cases hbe : isW R m with
        | true => rfl
        | false =>
          have : (nx g k).any (fun m => !isW R m) = true := List.any_eq_true.2 ⟨m, hm, by rw [hbe]; rfl⟩
          rw [this] at hf; cases hf
  · have hnil : nx g k = [] := List.length_eq_zero_iff.1 (by omega)
    by_cases hg : (k : Int) ∈ g.goal
    · have hgm2 : mapG g.goal k = some (.bool true) := if_pos hg
      simp (config := { maxSteps := 2000000 }) only [hgm2, cst0_bool, w1, ↓wPre, wPost, wFast, Nat.zero_add, Nat.add_zero, Nat.zero_lt_succ, Nat.min_self, Nat.zero_min, Nat.min_zero, Nat.sub_zero, Nat.zero_mul, Int.le_refl, Nat.le_refl, Nat.lt_irrefl, Nat.mul_one, Bool.false_eq_true, Bool.true_eq_false, decide_true, decide_false, decide_eq_true_eq, decide_eq_false_iff_not, Bool.not_true, Bool.not_false, Bool.not_eq_true', Bool.not_eq_false', Bool.and_true, Bool.true_and, Bool.false_and, beq_self_eq_true, ite_true, ite_false, true_and, and_true, false_and, and_false, not_true_eq_false, not_false_eq_true, false_implies, true_implies, implies_true, eq_self, ne_eq, or_true, true_or, or_false, false_or, Bool.or_false, Bool.or_true, Bool.false_or, Bool.true_or, Int.natCast_nonneg, Int.ofNat_lt, Int.ofNat_le, Int.ofNat_inj, Int.ofNat_zero, ↓reduceIte, reduceIte, Nat.reducePow, Nat.reduceLT, Nat.reduceLeDiff, Nat.reduceEqDiff, Nat.reduceAdd, Nat.reduceMul, Nat.reduceSub, Nat.reduceBEq, reduceCtorEq, sl1, wFacts, gmA]
      exact ret1E rfl rfl (settled_I _) (nogood fun h => h.1 hg)
    · have hgm2 : mapG g.goal k = none := if_neg hg
      simp (config := { maxSteps := 2000000 }) only [hgm2, cst0_bool, w1, ↓wPre, wPost, wFast, Nat.zero_add, Nat.add_zero, Nat.zero_lt_succ, Nat.min_self, Nat.zero_min, Nat.min_zero, Nat.sub_zero, Nat.zero_mul, Int.le_refl, Nat.le_refl, Nat.lt_irrefl, Nat.mul_one, Bool.false_eq_true, Bool.true_eq_false, decide_true, decide_false, decide_eq_true_eq, decide_eq_false_iff_not, Bool.not_true, Bool.not_false, Bool.not_eq_true', Bool.not_eq_false', Bool.and_true, Bool.true_and, Bool.false_and, beq_self_eq_true, ite_true, ite_false, true_and, and_true, false_and, and_false, not_true_eq_false, not_false_eq_true, false_implies, true_implies, implies_true, eq_self, ne_eq, or_true, true_or, or_false, false_or, Bool.or_false, Bool.or_true, Bool.false_or, Bool.true_or, Int.natCast_nonneg, Int.ofNat_lt, Int.ofNat_le, Int.ofNat_inj, Int.ofNat_zero, ↓reduceIte, reduceIte, Nat.reducePow, Nat.reduceLT, Nat.reduceLeDiff, Nat.reduceEqDiff, Nat.reduceAdd, Nat.reduceMul, Nat.reduceSub, Nat.reduceBEq, reduceCtorEq, sl1, wFacts, gmA]
      exact fin _ _ _ (.inr (.inr ⟨hg, .inr ⟨by omega, .inl hnil⟩⟩)) rfl
  · have hnn : nx g k ≠ [] := fun e => l0 (by rw [e]; rfl)
    simp (config := { maxSteps := 2000000 }) only [w1, ↓wPre, wPost, wFast, Nat.zero_add, Nat.add_zero, Nat.zero_lt_succ, Nat.min_self, Nat.zero_min, Nat.min_zero, Nat.sub_zero, Nat.zero_mul, Int.le_refl, Nat.le_refl, Nat.lt_irrefl, Nat.mul_one, Bool.false_eq_true, Bool.true_eq_false, decide_true, decide_false, decide_eq_true_eq, decide_eq_false_iff_not, Bool.not_true, Bool.not_false, Bool.not_eq_true', Bool.not_eq_false', Bool.and_true, Bool.true_and, Bool.false_and, beq_self_eq_true, ite_true, ite_false, true_and, and_true, false_and, and_false, not_true_eq_false, not_false_eq_true, false_implies, true_implies, implies_true, eq_self, ne_eq, or_true, true_or, or_false, false_or, Bool.or_false, Bool.or_true, Bool.false_or, Bool.true_or, Int.natCast_nonneg, Int.ofNat_lt, Int.ofNat_le, Int.ofNat_inj, Int.ofNat_zero, ↓reduceIte, reduceIte, Nat.reducePow, Nat.reduceLT, Nat.reduceLeDiff, Nat.reduceEqDiff, Nat.reduceAdd, Nat.reduceMul, Nat.reduceSub, Nat.reduceBEq, reduceCtorEq, sl1, wFacts, gmA]
    refine ⟨fun c1 => ?_, fun c1 => ?_⟩
    · have hm := rising_mem hris c1
      refine ⟨by omega, by omega, ⟨by omega, by omega⟩, by omega, ?_⟩
      by_cases hg : (k : Int) ∈ g.goal
      · have hgm2 : mapG g.goal k = some (.bool true) := if_pos hg
        simp (config := { maxSteps := 2000000 }) only [hgm2, cst0_bool, w1, ↓wPre, wPost, wFast, Nat.zero_add, Nat.add_zero, Nat.zero_lt_succ, Nat.min_self, Nat.zero_min, Nat.min_zero, Nat.sub_zero, Nat.zero_mul, Int.le_refl, Nat.le_refl, Nat.lt_irrefl, Nat.mul_one, Bool.false_eq_true, Bool.true_eq_false, decide_true, decide_false, decide_eq_true_eq, decide_eq_false_iff_not, Bool.not_true, Bool.not_false, Bool.not_eq_true', Bool.not_eq_false', Bool.and_true, Bool.true_and, Bool.false_and, beq_self_eq_true, ite_true, ite_false, true_and, and_true, false_and, and_false, not_true_eq_false, not_false_eq_true, false_implies, true_implies, implies_true, eq_self, ne_eq, or_true, true_or, or_false, false_or, Bool.or_false, Bool.or_true, Bool.false_or, Bool.true_or, Int.natCast_nonneg, Int.ofNat_lt, Int.ofNat_le, Int.ofNat_inj, Int.ofNat_zero, ↓reduceIte, reduceIte, Nat.reducePow, Nat.reduceLT, Nat.reduceLeDiff, Nat.reduceEqDiff, Nat.reduceAdd, Nat.reduceMul, Nat.reduceSub, Nat.reduceBEq, reduceCtorEq, sl1, wFacts, gmA]
        exact ret1E rfl rfl (settled_I _) (nogood fun h => h.1 hg)
      · have hgm2 : mapG g.goal k = none := if_neg hg
        simp (config := { maxSteps := 2000000 }) only [hgm2, cst0_bool, w1, ↓wPre, wPost, wFast, Nat.zero_add, Nat.add_zero, Nat.zero_lt_succ, Nat.min_self, Nat.zero_min, Nat.min_zero, Nat.sub_zero, Nat.zero_mul, Int.le_refl, Nat.le_refl, Nat.lt_irrefl, Nat.mul_one, Bool.false_eq_true, Bool.true_eq_false, decide_true, decide_false, decide_eq_true_eq, decide_eq_false_iff_not, Bool.not_true, Bool.not_false, Bool.not_eq_true', Bool.not_eq_false', Bool.and_true, Bool.true_and, Bool.false_and, beq_self_eq_true, ite_true, ite_false, true_and, and_true, false_and, and_false, not_true_eq_false, not_false_eq_true, false_implies, true_implies, implies_true, eq_self, ne_eq, or_true, true_or, or_false, false_or, Bool.or_false, Bool.or_true, Bool.false_or, Bool.true_or, Int.natCast_nonneg, Int.ofNat_lt, Int.ofNat_le, Int.ofNat_inj, Int.ofNat_zero, ↓reduceIte, reduceIte, Nat.reducePow, Nat.reduceLT, Nat.reduceLeDiff, Nat.reduceEqDiff, Nat.reduceAdd, Nat.reduceMul, Nat.reduceSub, Nat.reduceBEq, reduceCtorEq, sl1, wFacts, gmA]
        refine ⟨fun hf => ret1E rfl rfl (settled_I _) (nogood fun h => ?_), fun ht => fin _ _ _ (.inr (.inr ⟨hg, .inr ⟨by omega, .inr ⟨c1, decide_eq_true ht⟩⟩⟩)) rfl⟩
        rcases h.2 with h | h
        · exact o0 h.1
        · rcases h.2 with h | h
          · exact hnn h
          · exact hf (of_decide_eq_true h.2)
    · have hno : ¬ okW g R C k := fun h => by
        rcases h.2 with h | h
        · exact o0 h.1
        · rcases h.2 with h | h
          · exact hnn h
          · exact c1 h.1
      by_cases hg : (k : Int) ∈ g.goal
      · have hgm2 : mapG g.goal k = some (.bool true) := if_pos hg
        simp (config := { maxSteps := 2000000 }) only [hgm2, cst0_bool, w1, ↓wPre, wPost, wFast, Nat.zero_add, Nat.add_zero, Nat.zero_lt_succ, Nat.min_self, Nat.zero_min, Nat.min_zero, Nat.sub_zero, Nat.zero_mul, Int.le_refl, Nat.le_refl, Nat.lt_irrefl, Nat.mul_one, Bool.false_eq_true, Bool.true_eq_false, decide_true, decide_false, decide_eq_true_eq, decide_eq_false_iff_not, Bool.not_true, Bool.not_false, Bool.not_eq_true', Bool.not_eq_false', Bool.and_true, Bool.true_and, Bool.false_and, beq_self_eq_true, ite_true, ite_false, true_and, and_true, false_and, and_false, not_true_eq_false, not_false_eq_true, false_implies, true_implies, implies_true, eq_self, ne_eq, or_true, true_or, or_false, false_or, Bool.or_false, Bool.or_true, Bool.false_or, Bool.true_or, Int.natCast_nonneg, Int.ofNat_lt, Int.ofNat_le, Int.ofNat_inj, Int.ofNat_zero, ↓reduceIte, reduceIte, Nat.reducePow, Nat.reduceLT, Nat.reduceLeDiff, Nat.reduceEqDiff, Nat.reduceAdd, Nat.reduceMul, Nat.reduceSub, Nat.reduceBEq, reduceCtorEq, sl1, wFacts, gmA]
        exact ret1E rfl rfl (settled_I _) (nogood hno)
      · have hgm2 : mapG g.goal k = none := if_neg hg
        simp (config := { maxSteps := 2000000 }) only [hgm2, cst0_bool, w1, ↓wPre, wPost, wFast, Nat.zero_add, Nat.add_zero, Nat.zero_lt_succ, Nat.min_self, Nat.zero_min, Nat.min_zero, Nat.sub_zero, Nat.zero_mul, Int.le_refl, Nat.le_refl, Nat.lt_irrefl, Nat.mul_one, Bool.false_eq_true, Bool.true_eq_false, decide_true, decide_false, decide_eq_true_eq, decide_eq_false_iff_not, Bool.not_true, Bool.not_false, Bool.not_eq_true', Bool.not_eq_false', Bool.and_true, Bool.true_and, Bool.false_and, beq_self_eq_true, ite_true, ite_false, true_and, and_true, false_and, and_false, not_true_eq_false, not_false_eq_true, false_implies, true_implies, implies_true, eq_self, ne_eq, or_true, true_or, or_false, false_or, Bool.or_false, Bool.or_true, Bool.false_or, Bool.true_or, Int.natCast_nonneg, Int.ofNat_lt, Int.ofNat_le, Int.ofNat_inj, Int.ofNat_zero, ↓reduceIte, reduceIte, Nat.reducePow, Nat.reduceLT, Nat.reduceLeDiff, Nat.reduceEqDiff, Nat.reduceAdd, Nat.reduceMul, Nat.reduceSub, Nat.reduceBEq, reduceCtorEq, sl1, wFacts, gmA]
        exact ret1E rfl rfl (settled_I _) (nogood hno)
end
end Go.Ab.G
