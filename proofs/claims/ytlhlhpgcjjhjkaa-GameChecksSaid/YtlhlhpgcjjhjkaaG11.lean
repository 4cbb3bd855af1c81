/- Contracts of functions of this chapter, for every argument that fits, and what they need. -/
import Derived.Test.YtlhlhpgcjjhjkaaG6
set_option linter.unusedSimpArgs false
set_option linter.unusedVariables false
namespace Go.Ab.G
open Go Go.RowKit Go.Proofs
noncomputable section
set_option maxRecDepth 10000
set_option maxHeartbeats 2000000
set_option linter.unusedSimpArgs false
set_option linter.unusedVariables false
open Classical

/-! ### Check -/
def below (R : List Int) (k : Nat) (m : Int) : Bool := decide (0 ≤ R.getD m.toNat 0) && decide (R.getD m.toNat 0 < R.getD k 0)
def okK (g : Gm) (R C : List Int) (k : Nat) : Prop := (k : Int) ∉ g.bad ∧ ((ow g k = 0 ∧ C.getD k 0 ∈ nx g k ∧ below R k (C.getD k 0) = true) ∨ (ow g k = 1 ∧ nx g k ≠ [] ∧ ∀ m ∈ nx g k, below R k m = true))
def nodeC (g : Gm) (R C : List Int) (k : Nat) : Prop := R.getD k 0 < 0 ∨ (k : Int) ∈ g.goal ∨ okK g R C k
def fitC (g : Gm) (fr : Int) (R C : List Int) : Prop := R.length = g.n ∧ C.length = g.n ∧ 0 ≤ fr ∧ fr < g.n ∧ 0 ≤ R.getD fr.toNat 0
def checkG (g : Gm) (fr : Int) (R C : List Int) : Int := if validF g ≠ 0 then validF g else if fitC g fr R C ∧ ∀ k, k < g.n → nodeC g R C k then 0 else 22

theorem check1_fn (R : List Int) (k : Nat) (m : Int) (hk : k < R.length) (hm : 0 ≤ m ∧ m < R.length) :
    Fn Try.prog 40 [I m, .ptr 1 (ofL [ints R]) 0, .ptr 1 (ofL [I k]) 0] (.bool (below R k m)) := by
  refine Fn.intro (fn := Try.f40) Try.call40 Try.func40 rfl mixed 5 [] [] [] (by kernel_rfl) (Nat.le_of_ble_eq_true rfl) (by simp [settled_I, settled_pone, settled_ints]) (vc_soundN 1000 ?_)
  simp only [AS.start, ↓wPre, wPost, wFast, Nat.zero_add, Nat.add_zero, Nat.zero_lt_succ, Nat.min_self, Nat.zero_min, Nat.min_zero, Nat.sub_zero, Nat.zero_mul, Int.le_refl, Nat.le_refl, Nat.lt_irrefl, Nat.mul_one, Bool.false_eq_true, Bool.true_eq_false, decide_true, decide_false, decide_eq_true_eq, decide_eq_false_iff_not, Bool.not_true, Bool.not_false, Bool.not_eq_true', Bool.not_eq_false', Bool.and_true, Bool.true_and, Bool.false_and, beq_self_eq_true, ite_true, ite_false, true_and, and_true, false_and, and_false, not_true_eq_false, not_false_eq_true, false_implies, true_implies, implies_true, eq_self, ne_eq, or_true, true_or, or_false, false_or, Bool.or_false, Bool.or_true, Bool.false_or, Bool.true_or, Int.natCast_nonneg, Int.ofNat_lt, Int.ofNat_le, Int.ofNat_inj, Int.ofNat_zero, ↓reduceIte, reduceIte, Nat.reducePow, Nat.reduceLT, Nat.reduceLeDiff, Nat.reduceEqDiff, Nat.reduceAdd, Nat.reduceMul, Nat.reduceSub, Nat.reduceBEq, reduceCtorEq, sl1, wFacts, gmA]
  refine ⟨hm, by omega, fun h => ⟨hm, by omega, hk, hk, ret1E (v := .bool (decide (R.getD m.toNat 0 < R.getD k 0))) rfl rfl (settled_bool _) ?_⟩, fun h => ret1E (v := .bool false) rfl rfl (settled_bool _) ?_⟩
  · unfold below; rw [decide_eq_true h, Bool.true_and]
  · unfold below; rw [decide_eq_false h, Bool.false_and]
def fnB (R : List Int) (k : Nat) : AV := .fn 40 [.ptr 1 (ofL [ints R]) 0, .ptr 1 (ofL [I k]) 0]
theorem settled_fnB (R : List Int) (k : Nat) : Settled (fnB R k) := settled_fn (by simp [settled_pone, settled_ints, settled_I])
theorem check2_fn (R : List Int) (k : Nat) (m : Int) (hk : k < R.length) (hm : 0 ≤ m ∧ m < R.length) :
    Fn Try.prog 41 [I m, .ptr 1 (ofL [fnB R k]) 0] (.bool (!below R k m)) := by
  refine Fn.intro (fn := Try.f41) Try.call41 Try.func41 rfl mixed 4 [] [] [] (by kernel_rfl) (Nat.le_of_ble_eq_true rfl) (by simp [settled_I, settled_pone, settled_fnB]) (vc_soundN 1000 ?_)
  simp only [AS.start, fnB, ↓wPre, wPost, wFast, Nat.zero_add, Nat.add_zero, Nat.zero_lt_succ, Nat.min_self, Nat.zero_min, Nat.min_zero, Nat.sub_zero, Nat.zero_mul, Int.le_refl, Nat.le_refl, Nat.lt_irrefl, Nat.mul_one, Bool.false_eq_true, Bool.true_eq_false, decide_true, decide_false, decide_eq_true_eq, decide_eq_false_iff_not, Bool.not_true, Bool.not_false, Bool.not_eq_true', Bool.not_eq_false', Bool.and_true, Bool.true_and, Bool.false_and, beq_self_eq_true, ite_true, ite_false, true_and, and_true, false_and, and_false, not_true_eq_false, not_false_eq_true, false_implies, true_implies, implies_true, eq_self, ne_eq, or_true, true_or, or_false, false_or, Bool.or_false, Bool.or_true, Bool.false_or, Bool.true_or, Int.natCast_nonneg, Int.ofNat_lt, Int.ofNat_le, Int.ofNat_inj, Int.ofNat_zero, ↓reduceIte, reduceIte, Nat.reducePow, Nat.reduceLT, Nat.reduceLeDiff, Nat.reduceEqDiff, Nat.reduceAdd, Nat.reduceMul, Nat.reduceSub, Nat.reduceBEq, reduceCtorEq, sl1, wFacts, gmA]
  refine call_weak (check1_fn R k m hk hm) (weakL_rfl _) ?_
  simp only [↓wPre, wPost, wFast, Nat.zero_add, Nat.add_zero, Nat.zero_lt_succ, Nat.min_self, Nat.zero_min, Nat.min_zero, Nat.sub_zero, Nat.zero_mul, Int.le_refl, Nat.le_refl, Nat.lt_irrefl, Nat.mul_one, Bool.false_eq_true, Bool.true_eq_false, decide_true, decide_false, decide_eq_true_eq, decide_eq_false_iff_not, Bool.not_true, Bool.not_false, Bool.not_eq_true', Bool.not_eq_false', Bool.and_true, Bool.true_and, Bool.false_and, beq_self_eq_true, ite_true, ite_false, true_and, and_true, false_and, and_false, not_true_eq_false, not_false_eq_true, false_implies, true_implies, implies_true, eq_self, ne_eq, or_true, true_or, or_false, false_or, Bool.or_false, Bool.or_true, Bool.false_or, Bool.true_or, Int.natCast_nonneg, Int.ofNat_lt, Int.ofNat_le, Int.ofNat_inj, Int.ofNat_zero, ↓reduceIte, reduceIte, Nat.reducePow, Nat.reduceLT, Nat.reduceLeDiff, Nat.reduceEqDiff, Nat.reduceAdd, Nat.reduceMul, Nat.reduceSub, Nat.reduceBEq, reduceCtorEq, sl1, wFacts, gmA]
  exact ret1E rfl rfl (settled_bool _) rfl

theorem bel3c (g : Gm) (R : List Int) : ∀ o ∈ [AO.row 0 4 (ofL (gmL g)), AO.row 0 1 (ofL [ints R]), AO.row 0 6 (ofL (bdL g))], belO 3 o := by
  intro o ho
  simp only [List.mem_cons, List.not_mem_nil, or_false] at ho
  rcases ho with rfl | rfl | rfl
  · intro j _
    unfold gmL ofL
    match j with
    | 0 => exact bel_of_settled (settled_ints _)
    | 1 => exact bel_of_settled (settled_intss _)
    | 2 => exact bel_of_settled (settled_ints _)
    | 3 => exact bel_of_settled (settled_ints _)
    | j + 4 => exact bel_any _
  · intro j hj
    obtain rfl : j = 0 := by omega
    exact bel_of_settled (settled_ints _)
  · intro j _
    unfold bdL ofL
    match j with
    | 0 => exact bel_of_settled (settled_ints _)
    | 1 => exact bel_of_settled (settled_intss _)
    | 2 => exact bel_of_settled (settled_ints _)
    | 3 => exact bel_of_settled (settled_ints _)
    | 4 => exact bel_of_settled (settled_cmap _ _)
    | 5 => exact bel_of_settled (settled_cmap _ _)
    | j + 6 => exact bel_any _
theorem bel_c (C : List Int) (n : Nat) : ∀ a ∈ [AV.any, .any, .any, ints C, .ref 0 0 0, .any, .ref 1 0 0, .any, .any, .any, I n, .ref 2 0 0, .any, .any, .any], Bel 3 a := by
  intro a ha
  simp only [List.mem_cons, List.not_mem_nil, or_false] at ha
  rcases ha with rfl | rfl | rfl | rfl | rfl | rfl | rfl | rfl | rfl | rfl | rfl | rfl | rfl | rfl | rfl
  all_goals first | exact bel_any _ | exact bel_ref (by omega) | exact bel_I _ _ | exact bel_of_settled (settled_ints _)
theorem bel_tc (a b : Int) : ∀ p ∈ [((51 : Nat), I a), (52, I b)], Bel 3 p.2 := by
  intro p hp
  simp only [List.mem_cons, List.not_mem_nil, or_false] at hp
  rcases hp with rfl | rfl
  · exact bel_I _ _
  · exact bel_I _ _
theorem check_fn (g : Gm) (hs : smallG g) (fr : Int) (R C : List Int) (hR : R.length < 9223372036854775808) (hC : C.length < 9223372036854775808) : Fn Try.prog 21 [gmA g, I fr, ints R, ints C] (I (checkG g fr R C)) := by
  have hs' := hs
  obtain ⟨s1, s2, s3, s4, s5⟩ := hs
  obtain ⟨V, hV⟩ : ∃ V, V = checkG g fr R C := ⟨_, rfl⟩
  rw [← hV]
  unfold checkG at hV
  refine Fn.intro (fn := Try.f21) Try.call21 Try.func21 rfl mixed 15 [51, 52] [] [] (by kernel_rfl) (Nat.le_of_ble_eq_true rfl) (by simp [settled_ints, settled_I, settled_fn0, settled_intss, settled_bool, settled_nil, settled_gmA]) (vc_soundN 1000 ?_); simp (config := { maxSteps := 2000000 }) only [AS.start, ↓wPre, wPost, wFast, Nat.zero_add, Nat.add_zero, Nat.zero_lt_succ, Nat.min_self, Nat.zero_min, Nat.min_zero, Nat.sub_zero, Nat.zero_mul, Int.le_refl, Nat.le_refl, Nat.lt_irrefl, Nat.mul_one, Bool.false_eq_true, Bool.true_eq_false, decide_true, decide_false, decide_eq_true_eq, decide_eq_false_iff_not, Bool.not_true, Bool.not_false, Bool.not_eq_true', Bool.not_eq_false', Bool.and_true, Bool.true_and, Bool.false_and, beq_self_eq_true, ite_true, ite_false, true_and, and_true, false_and, and_false, not_true_eq_false, not_false_eq_true, false_implies, true_implies, implies_true, eq_self, ne_eq, or_true, true_or, or_false, false_or, Bool.or_false, Bool.or_true, Bool.false_or, Bool.true_or, Int.natCast_nonneg, Int.ofNat_lt, Int.ofNat_le, Int.ofNat_inj, Int.ofNat_zero, ↓reduceIte, reduceIte, Nat.reducePow, Nat.reduceLT, Nat.reduceLeDiff, Nat.reduceEqDiff, Nat.reduceAdd, Nat.reduceMul, Nat.reduceSub, Nat.reduceBEq, reduceCtorEq, sl1, wFacts, gmA]
  refine call_fn (valid_fn g hs') rfl ?_
  simp only [gmL, ↓wPre, wPost, wFast, Nat.zero_add, Nat.add_zero, Nat.zero_lt_succ, Nat.min_self, Nat.zero_min, Nat.min_zero, Nat.sub_zero, Nat.zero_mul, Int.le_refl, Nat.le_refl, Nat.lt_irrefl, Nat.mul_one, Bool.false_eq_true, Bool.true_eq_false, decide_true, decide_false, decide_eq_true_eq, decide_eq_false_iff_not, Bool.not_true, Bool.not_false, Bool.not_eq_true', Bool.not_eq_false', Bool.and_true, Bool.true_and, Bool.false_and, beq_self_eq_true, ite_true, ite_false, true_and, and_true, false_and, and_false, not_true_eq_false, not_false_eq_true, false_implies, true_implies, implies_true, eq_self, ne_eq, or_true, true_or, or_false, false_or, Bool.or_false, Bool.or_true, Bool.false_or, Bool.true_or, Int.natCast_nonneg, Int.ofNat_lt, Int.ofNat_le, Int.ofNat_inj, Int.ofNat_zero, ↓reduceIte, reduceIte, Nat.reducePow, Nat.reduceLT, Nat.reduceLeDiff, Nat.reduceEqDiff, Nat.reduceAdd, Nat.reduceMul, Nat.reduceSub, Nat.reduceBEq, reduceCtorEq, sl1, wFacts, gmA]
  refine ⟨fun hv => ret1E (v := I (validF g)) rfl rfl (settled_I _) (by rw [hV, if_pos hv]), fun hv => ?_⟩
  rw [if_neg (by simpa using hv)] at hV
  have hv0 : validF g = 0 := by simpa using hv
  obtain ⟨hsz, hrest⟩ := valid_ok hv0
  have hsz2 : g.own.length ≤ 4096 := hsz.2
  have hn : g.n = g.own.length := rfl
  have hnl : g.nxt.length = g.own.length := hrest.1
  have bad : ¬ fitC g fr R C → I 22 = I V := fun h => by rw [hV, if_neg fun h' => h h'.1]
  refine ⟨fun q1 => ret1E rfl rfl (settled_I _) (bad fun h => q1 h.1), fun q1 => ⟨fun q2 => ret1E rfl rfl (settled_I _) (bad fun h => q2 h.2.1), fun q2 => ⟨fun q3 => ret1E rfl rfl (settled_I _) (bad fun h => by have := h.2.2.1; omega), fun q3 => ⟨fun q4 => ret1E rfl rfl (settled_I _) (bad fun h => by have := h.2.2.2.1; omega), fun q4 => ⟨⟨by omega, by omega⟩, by omega, fun q5 => ret1E rfl rfl (settled_I _) (bad fun h => by have := h.2.2.2.2; omega), fun q5 => ?_⟩⟩⟩⟩⟩
  have hfit : fitC g fr R C := ⟨by omega, by omega, by omega, by omega, by omega⟩
  have no : ∀ k, k < g.n → ¬ nodeC g R C k → I 22 = I V := fun k hk h => by rw [hV, if_neg fun h' => h (h'.2 k hk)]
  refine call_fn (of_fn g hs') rfl ?_
  simp only [bdA, ↓wPre, wPost, wFast, Nat.zero_add, Nat.add_zero, Nat.zero_lt_succ, Nat.min_self, Nat.zero_min, Nat.min_zero, Nat.sub_zero, Nat.zero_mul, Int.le_refl, Nat.le_refl, Nat.lt_irrefl, Nat.mul_one, Bool.false_eq_true, Bool.true_eq_false, decide_true, decide_false, decide_eq_true_eq, decide_eq_false_iff_not, Bool.not_true, Bool.not_false, Bool.not_eq_true', Bool.not_eq_false', Bool.and_true, Bool.true_and, Bool.false_and, beq_self_eq_true, ite_true, ite_false, true_and, and_true, false_and, and_false, not_true_eq_false, not_false_eq_true, false_implies, true_implies, implies_true, eq_self, ne_eq, or_true, true_or, or_false, false_or, Bool.or_false, Bool.or_true, Bool.false_or, Bool.true_or, Int.natCast_nonneg, Int.ofNat_lt, Int.ofNat_le, Int.ofNat_inj, Int.ofNat_zero, ↓reduceIte, reduceIte, Nat.reducePow, Nat.reduceLT, Nat.reduceLeDiff, Nat.reduceEqDiff, Nat.reduceAdd, Nat.reduceMul, Nat.reduceSub, Nat.reduceBEq, reduceCtorEq, sl1, wFacts, gmA]
  refine run_loop (fun k : Nat => ⟨15, [51, 52], [.any, .any, .any, ints C, .ref 0 0 0, .any, .ref 1 0 0, .any, .any, .any, I g.own.length, .ref 2 0 0, .any, .any, .any], [(51, I g.own.length), (52, I k)],
    [.row 0 4 (ofL (gmL g)), .row 0 1 (ofL [ints R]), .row 0 6 (ofL (bdL g))]⟩) (fun k => k ≤ g.own.length ∧ ∀ j, j < k → nodeC g R C j) (fun k => g.own.length - k) 0 ⟨by omega, fun j hj => by omega⟩
    (sub_mk rfl (by simp [subL, ints, sl1, I]) (by simp [subT, look, I]) (by simp [gmL, bdL, ints, intss, sl1])) ?_
  rintro k ⟨hk, hinv⟩ next
  have w1 := wj k (by omega)
  refine vc_soundN 1000 ?_
  simp (config := { maxSteps := 2000000 }) only [w1, gmL, bdL, ↓wPre, wPost, wFast, Nat.zero_add, Nat.add_zero, Nat.zero_lt_succ, Nat.min_self, Nat.zero_min, Nat.min_zero, Nat.sub_zero, Nat.zero_mul, Int.le_refl, Nat.le_refl, Nat.lt_irrefl, Nat.mul_one, Bool.false_eq_true, Bool.true_eq_false, decide_true, decide_false, decide_eq_true_eq, decide_eq_false_iff_not, Bool.not_true, Bool.not_false, Bool.not_eq_true', Bool.not_eq_false', Bool.and_true, Bool.true_and, Bool.false_and, beq_self_eq_true, ite_true, ite_false, true_and, and_true, false_and, and_false, not_true_eq_false, not_false_eq_true, false_implies, true_implies, implies_true, eq_self, ne_eq, or_true, true_or, or_false, false_or, Bool.or_false, Bool.or_true, Bool.false_or, Bool.true_or, Int.natCast_nonneg, Int.ofNat_lt, Int.ofNat_le, Int.ofNat_inj, Int.ofNat_zero, ↓reduceIte, reduceIte, Nat.reducePow, Nat.reduceLT, Nat.reduceLeDiff, Nat.reduceEqDiff, Nat.reduceAdd, Nat.reduceMul, Nat.reduceSub, Nat.reduceBEq, reduceCtorEq, sl1, wFacts, gmA]
  refine ⟨fun h => ?_, fun h => ret1E (v := I 0) rfl rfl (settled_I _) (by rw [hV, if_pos ⟨hfit, fun k hk => hinv k (by omega)⟩])⟩
  have hkn : k < g.n := h
  have hnx : g.nxt.getD k [] = nx g k := rfl
  have how : g.own.getD k 0 = ow g k := rfl
  have hris := (hrest.2.2.2 k hkn).2.1
  have ho01 := (hrest.2.2.2 k hkn).1
  have hnxl : (nx g k).length ≤ g.own.length := rising_len hris
  have go : nodeC g R C k → k + 1 ≤ g.own.length ∧ ∀ j, j < k + 1 → nodeC g R C j := fun hc => ⟨by omega, fun j hj => by
    by_cases e : j = k
    · rw [e]; exact hc
    · exact hinv j (by omega)⟩
  refine ⟨by omega, by omega, fun e1 => ?_, fun e1 => ?_⟩
  · refine next (k + 1) _ (go (.inl e1)) (by omega) (sub_cut (m := 3) (Nat.zero_le _) rfl ?_ ?_ ?_ (bel_c C g.own.length) (bel_tc _ _) (bel3c g R))
    · simp [subL, ints, sl1, I]
    · simp [subT, look, I]
    · simp [gmL, bdL, ints, intss, sl1]
  by_cases hg : (k : Int) ∈ g.goal
  · have hgm : mapG g.goal k = some (.bool true) := if_pos hg
    simp (config := { maxSteps := 2000000 }) only [hgm, cst0_bool, w1, ↓wPre, wPost, wFast, Nat.zero_add, Nat.add_zero, Nat.zero_lt_succ, Nat.min_self, Nat.zero_min, Nat.min_zero, Nat.sub_zero, Nat.zero_mul, Int.le_refl, Nat.le_refl, Nat.lt_irrefl, Nat.mul_one, Bool.false_eq_true, Bool.true_eq_false, decide_true, decide_false, decide_eq_true_eq, decide_eq_false_iff_not, Bool.not_true, Bool.not_false, Bool.not_eq_true', Bool.not_eq_false', Bool.and_true, Bool.true_and, Bool.false_and, beq_self_eq_true, ite_true, ite_false, true_and, and_true, false_and, and_false, not_true_eq_false, not_false_eq_true, false_implies, true_implies, implies_true, eq_self, ne_eq, or_true, true_or, or_false, false_or, Bool.or_false, Bool.or_true, Bool.false_or, Bool.true_or, Int.natCast_nonneg, Int.ofNat_lt, Int.ofNat_le, Int.ofNat_inj, Int.ofNat_zero, ↓reduceIte, reduceIte, Nat.reducePow, Nat.reduceLT, Nat.reduceLeDiff, Nat.reduceEqDiff, Nat.reduceAdd, Nat.reduceMul, Nat.reduceSub, Nat.reduceBEq, reduceCtorEq, sl1, wFacts, gmA]
    refine next (k + 1) _ (go (.inr (.inl hg))) (by omega) (sub_cut (m := 3) (Nat.zero_le _) rfl ?_ ?_ ?_ (bel_c C g.own.length) (bel_tc _ _) (bel3c g R))
    · simp [subL, ints, sl1, I]
    · simp [subT, look, I]
    · simp [gmL, bdL, ints, intss, sl1]
  have hgm : mapG g.goal k = none := if_neg hg
  simp (config := { maxSteps := 2000000 }) only [hgm, cst0_bool, w1, ↓wPre, wPost, wFast, Nat.zero_add, Nat.add_zero, Nat.zero_lt_succ, Nat.min_self, Nat.zero_min, Nat.min_zero, Nat.sub_zero, Nat.zero_mul, Int.le_refl, Nat.le_refl, Nat.lt_irrefl, Nat.mul_one, Bool.false_eq_true, Bool.true_eq_false, decide_true, decide_false, decide_eq_true_eq, decide_eq_false_iff_not, Bool.not_true, Bool.not_false, Bool.not_eq_true', Bool.not_eq_false', Bool.and_true, Bool.true_and, Bool.false_and, beq_self_eq_true, ite_true, ite_false, true_and, and_true, false_and, and_false, not_true_eq_false, not_false_eq_true, false_implies, true_implies, implies_true, eq_self, ne_eq, or_true, true_or, or_false, false_or, Bool.or_false, Bool.or_true, Bool.false_or, Bool.true_or, Int.natCast_nonneg, Int.ofNat_lt, Int.ofNat_le, Int.ofNat_inj, Int.ofNat_zero, ↓reduceIte, reduceIte, Nat.reducePow, Nat.reduceLT, Nat.reduceLeDiff, Nat.reduceEqDiff, Nat.reduceAdd, Nat.reduceMul, Nat.reduceSub, Nat.reduceBEq, reduceCtorEq, sl1, wFacts, gmA]
  have hCk : C.length = g.own.length := by omega
  have hRk : R.length = g.own.length := by omega
  have nogood : ¬ okK g R C k → I 22 = I V := fun hok => no k hkn fun hc => by
    rcases hc with hc | hc | hc
    · exact e1 hc
    · exact hg hc
    · exact hok hc
  have sB : ∀ {H : List AO}, H[1]? = some (.row 0 1 (ofL [.sl R.length R.length (slF I 0 R) false])) → H[3]? = some (.row 0 1 (ofL [.int .i64 k])) → Sees H (.fn 40 [.ref 1 0 0, .ref 3 0 0]) (fnB R k) := fun h1 h3 =>
    sees_fn ⟨sees_one (settled_ints R) h1, sees_one (settled_I k) h3, trivial⟩
  refine ⟨h, h, fun o0 => ⟨by omega, by omega, by omega, by omega, call_fn (contains_fn (nx g k) (C.getD k 0) (by omega)) rfl ?_⟩, fun o0 => ⟨by omega, by omega, fun l0 => ⟨by omega, by omega, ?_⟩, fun l0 => ?_⟩⟩
  · simp (config := { maxSteps := 2000000 }) only [w1, ↓wPre, wPost, wFast, Nat.zero_add, Nat.add_zero, Nat.zero_lt_succ, Nat.min_self, Nat.zero_min, Nat.min_zero, Nat.sub_zero, Nat.zero_mul, Int.le_refl, Nat.le_refl, Nat.lt_irrefl, Nat.mul_one, Bool.false_eq_true, Bool.true_eq_false, decide_true, decide_false, decide_eq_true_eq, decide_eq_false_iff_not, Bool.not_true, Bool.not_false, Bool.not_eq_true', Bool.not_eq_false', Bool.and_true, Bool.true_and, Bool.false_and, beq_self_eq_true, ite_true, ite_false, true_and, and_true, false_and, and_false, not_true_eq_false, not_false_eq_true, false_implies, true_implies, implies_true, eq_self, ne_eq, or_true, true_or, or_false, false_or, Bool.or_false, Bool.or_true, Bool.false_or, Bool.true_or, Int.natCast_nonneg, Int.ofNat_lt, Int.ofNat_le, Int.ofNat_inj, Int.ofNat_zero, ↓reduceIte, reduceIte, Nat.reducePow, Nat.reduceLT, Nat.reduceLeDiff, Nat.reduceEqDiff, Nat.reduceAdd, Nat.reduceMul, Nat.reduceSub, Nat.reduceBEq, reduceCtorEq, sl1, wFacts, gmA]
    refine ⟨fun c1 => ?_, fun c1 => ?_⟩
    · have hm := rising_mem hris c1
      refine ⟨by omega, by omega, call_lent (check1_fn R k (C.getD k 0) (by omega) (by omega)) rfl ⟨(settled_I _).sees _, sees_one (settled_ints R) rfl, sees_one (settled_I k) rfl, trivial⟩ (flat_bool _) ?_⟩
      simp (config := { maxSteps := 2000000 }) only [w1, ↓wPre, wPost, wFast, Nat.zero_add, Nat.add_zero, Nat.zero_lt_succ, Nat.min_self, Nat.zero_min, Nat.min_zero, Nat.sub_zero, Nat.zero_mul, Int.le_refl, Nat.le_refl, Nat.lt_irrefl, Nat.mul_one, Bool.false_eq_true, Bool.true_eq_false, decide_true, decide_false, decide_eq_true_eq, decide_eq_false_iff_not, Bool.not_true, Bool.not_false, Bool.not_eq_true', Bool.not_eq_false', Bool.and_true, Bool.true_and, Bool.false_and, beq_self_eq_true, ite_true, ite_false, true_and, and_true, false_and, and_false, not_true_eq_false, not_false_eq_true, false_implies, true_implies, implies_true, eq_self, ne_eq, or_true, true_or, or_false, false_or, Bool.or_false, Bool.or_true, Bool.false_or, Bool.true_or, Int.natCast_nonneg, Int.ofNat_lt, Int.ofNat_le, Int.ofNat_inj, Int.ofNat_zero, ↓reduceIte, reduceIte, Nat.reducePow, Nat.reduceLT, Nat.reduceLeDiff, Nat.reduceEqDiff, Nat.reduceAdd, Nat.reduceMul, Nat.reduceSub, Nat.reduceBEq, reduceCtorEq, sl1, wFacts, gmA]
      by_cases hb : (k : Int) ∈ g.bad
      · have hbm : mapG g.bad k = some (.bool true) := if_pos hb
        simp (config := { maxSteps := 2000000 }) only [hbm, cst0_bool, w1, ↓wPre, wPost, wFast, Nat.zero_add, Nat.add_zero, Nat.zero_lt_succ, Nat.min_self, Nat.zero_min, Nat.min_zero, Nat.sub_zero, Nat.zero_mul, Int.le_refl, Nat.le_refl, Nat.lt_irrefl, Nat.mul_one, Bool.false_eq_true, Bool.true_eq_false, decide_true, decide_false, decide_eq_true_eq, decide_eq_false_iff_not, Bool.not_true, Bool.not_false, Bool.not_eq_true', Bool.not_eq_false', Bool.and_true, Bool.true_and, Bool.false_and, beq_self_eq_true, ite_true, ite_false, true_and, and_true, false_and, and_false, not_true_eq_false, not_false_eq_true, false_implies, true_implies, implies_true, eq_self, ne_eq, or_true, true_or, or_false, false_or, Bool.or_false, Bool.or_true, Bool.false_or, Bool.true_or, Int.natCast_nonneg, Int.ofNat_lt, Int.ofNat_le, Int.ofNat_inj, Int.ofNat_zero, ↓reduceIte, reduceIte, Nat.reducePow, Nat.reduceLT, Nat.reduceLeDiff, Nat.reduceEqDiff, Nat.reduceAdd, Nat.reduceMul, Nat.reduceSub, Nat.reduceBEq, reduceCtorEq, sl1, wFacts, gmA]
        exact ret1E rfl rfl (settled_I _) (nogood fun h => h.1 hb)
      · have hbm : mapG g.bad k = none := if_neg hb
        simp (config := { maxSteps := 2000000 }) only [hbm, cst0_bool, w1, ↓wPre, wPost, wFast, Nat.zero_add, Nat.add_zero, Nat.zero_lt_succ, Nat.min_self, Nat.zero_min, Nat.min_zero, Nat.sub_zero, Nat.zero_mul, Int.le_refl, Nat.le_refl, Nat.lt_irrefl, Nat.mul_one, Bool.false_eq_true, Bool.true_eq_false, decide_true, decide_false, decide_eq_true_eq, decide_eq_false_iff_not, Bool.not_true, Bool.not_false, Bool.not_eq_true', Bool.not_eq_false', Bool.and_true, Bool.true_and, Bool.false_and, beq_self_eq_true, ite_true, ite_false, true_and, and_true, false_and, and_false, not_true_eq_false, not_false_eq_true, false_implies, true_implies, implies_true, eq_self, ne_eq, or_true, true_or, or_false, false_or, Bool.or_false, Bool.or_true, Bool.false_or, Bool.true_or, Int.natCast_nonneg, Int.ofNat_lt, Int.ofNat_le, Int.ofNat_inj, Int.ofNat_zero, ↓reduceIte, reduceIte, Nat.reducePow, Nat.reduceLT, Nat.reduceLeDiff, Nat.reduceEqDiff, Nat.reduceAdd, Nat.reduceMul, Nat.reduceSub, Nat.reduceBEq, reduceCtorEq, sl1, wFacts, gmA]
        refine guardP_intron (fun hf => ret1E rfl rfl (settled_I _) (nogood fun h => ?_)) (fun ht => next (k + 1) _ (go (.inr (.inr ⟨hb, .inl ⟨o0, c1, ht⟩⟩))) (by omega) (sub_cut (m := 3) (Nat.zero_le _) rfl ?_ ?_ ?_ (bel_c C g.own.length) (bel_tc _ _) (bel3c g R)))
        · rcases h.2 with h | h
          · rw [h.2.2] at hf; cases hf
          · have := h.1; omega
        · simp [subL, ints, sl1, I]
        · simp [subT, look, I]
        · simp [gmL, bdL, ints, intss, sl1]
    · have hno : ¬ okK g R C k := fun h => by
        rcases h.2 with h | h
        · exact c1 h.2.1
        · have := h.1; omega
      by_cases hb : (k : Int) ∈ g.bad
      · have hbm : mapG g.bad k = some (.bool true) := if_pos hb
        simp (config := { maxSteps := 2000000 }) only [hbm, cst0_bool, w1, ↓wPre, wPost, wFast, Nat.zero_add, Nat.add_zero, Nat.zero_lt_succ, Nat.min_self, Nat.zero_min, Nat.min_zero, Nat.sub_zero, Nat.zero_mul, Int.le_refl, Nat.le_refl, Nat.lt_irrefl, Nat.mul_one, Bool.false_eq_true, Bool.true_eq_false, decide_true, decide_false, decide_eq_true_eq, decide_eq_false_iff_not, Bool.not_true, Bool.not_false, Bool.not_eq_true', Bool.not_eq_false', Bool.and_true, Bool.true_and, Bool.false_and, beq_self_eq_true, ite_true, ite_false, true_and, and_true, false_and, and_false, not_true_eq_false, not_false_eq_true, false_implies, true_implies, implies_true, eq_self, ne_eq, or_true, true_or, or_false, false_or, Bool.or_false, Bool.or_true, Bool.false_or, Bool.true_or, Int.natCast_nonneg, Int.ofNat_lt, Int.ofNat_le, Int.ofNat_inj, Int.ofNat_zero, ↓reduceIte, reduceIte, Nat.reducePow, Nat.reduceLT, Nat.reduceLeDiff, Nat.reduceEqDiff, Nat.reduceAdd, Nat.reduceMul, Nat.reduceSub, Nat.reduceBEq, reduceCtorEq, sl1, wFacts, gmA]
        exact ret1E rfl rfl (settled_I _) (nogood hno)
      · have hbm : mapG g.bad k = none := if_neg hb
        simp (config := { maxSteps := 2000000 }) only [hbm, cst0_bool, w1, ↓wPre, wPost, wFast, Nat.zero_add, Nat.add_zero, Nat.zero_lt_succ, Nat.min_self, Nat.zero_min, Nat.min_zero, Nat.sub_zero, Nat.zero_mul, Int.le_refl, Nat.le_refl, Nat.lt_irrefl, Nat.mul_one, Bool.false_eq_true, Bool.true_eq_false, decide_true, decide_false, decide_eq_true_eq, decide_eq_false_iff_not, Bool.not_true, Bool.not_false, Bool.not_eq_true', Bool.not_eq_false', Bool.and_true, Bool.true_and, Bool.false_and, beq_self_eq_true, ite_true, ite_false, true_and, and_true, false_and, and_false, not_true_eq_false, not_false_eq_true, false_implies, true_implies, implies_true, eq_self, ne_eq, or_true, true_or, or_false, false_or, Bool.or_false, Bool.or_true, Bool.false_or, Bool.true_or, Int.natCast_nonneg, Int.ofNat_lt, Int.ofNat_le, Int.ofNat_inj, Int.ofNat_zero, ↓reduceIte, reduceIte, Nat.reducePow, Nat.reduceLT, Nat.reduceLeDiff, Nat.reduceEqDiff, Nat.reduceAdd, Nat.reduceMul, Nat.reduceSub, Nat.reduceBEq, reduceCtorEq, sl1, wFacts, gmA]
        exact ret1E rfl rfl (settled_I _) (nogood hno)
  · refine call_lent (containsf_fn (nx g k) 41 [.ptr 1 (ofL [fnB R k]) 0] (fun m => !below R k m) (by omega) (by simp [settled_pone, settled_fnB]) (fun x hx => check2_fn R k x (by omega) (by have := rising_mem hris hx; omega))) rfl
      ⟨(settled_ints _).sees _, sees_fn ⟨sees_ref (.inl rfl) (by omega) (fun j hj => ?_), trivial⟩, trivial⟩ (flat_bool _) ?_
    · obtain rfl : j = 0 := by omega
      exact sB rfl rfl
    simp (config := { maxSteps := 2000000 }) only [w1, ↓wPre, wPost, wFast, Nat.zero_add, Nat.add_zero, Nat.zero_lt_succ, Nat.min_self, Nat.zero_min, Nat.min_zero, Nat.sub_zero, Nat.zero_mul, Int.le_refl, Nat.le_refl, Nat.lt_irrefl, Nat.mul_one, Bool.false_eq_true, Bool.true_eq_false, decide_true, decide_false, decide_eq_true_eq, decide_eq_false_iff_not, Bool.not_true, Bool.not_false, Bool.not_eq_true', Bool.not_eq_false', Bool.and_true, Bool.true_and, Bool.false_and, beq_self_eq_true, ite_true, ite_false, true_and, and_true, false_and, and_false, not_true_eq_false, not_false_eq_true, false_implies, true_implies, implies_true, eq_self, ne_eq, or_true, true_or, or_false, false_or, Bool.or_false, Bool.or_true, Bool.false_or, Bool.true_or, Int.natCast_nonneg, Int.ofNat_lt, Int.ofNat_le, Int.ofNat_inj, Int.ofNat_zero, ↓reduceIte, reduceIte, Nat.reducePow, Nat.reduceLT, Nat.reduceLeDiff, Nat.reduceEqDiff, Nat.reduceAdd, Nat.reduceMul, Nat.reduceSub, Nat.reduceBEq, reduceCtorEq, sl1, wFacts, gmA]
    by_cases hb : (k : Int) ∈ g.bad
    · have hbm : mapG g.bad k = some (.bool true) := if_pos hb
      simp (config := { maxSteps := 2000000 }) only [hbm, cst0_bool, w1, ↓wPre, wPost, wFast, Nat.zero_add, Nat.add_zero, Nat.zero_lt_succ, Nat.min_self, Nat.zero_min, Nat.min_zero, Nat.sub_zero, Nat.zero_mul, Int.le_refl, Nat.le_refl, Nat.lt_irrefl, Nat.mul_one, Bool.false_eq_true, Bool.true_eq_false, decide_true, decide_false, decide_eq_true_eq, decide_eq_false_iff_not, Bool.not_true, Bool.not_false, Bool.not_eq_true', Bool.not_eq_false', Bool.and_true, Bool.true_and, Bool.false_and, beq_self_eq_true, ite_true, ite_false, true_and, and_true, false_and, and_false, not_true_eq_false, not_false_eq_true, false_implies, true_implies, implies_true, eq_self, ne_eq, or_true, true_or, or_false, false_or, Bool.or_false, Bool.or_true, Bool.false_or, Bool.true_or, Int.natCast_nonneg, Int.ofNat_lt, Int.ofNat_le, Int.ofNat_inj, Int.ofNat_zero, ↓reduceIte, reduceIte, Nat.reducePow, Nat.reduceLT, Nat.reduceLeDiff, Nat.reduceEqDiff, Nat.reduceAdd, Nat.reduceMul, Nat.reduceSub, Nat.reduceBEq, reduceCtorEq, sl1, wFacts, gmA]
      exact ret1E rfl rfl (settled_I _) (nogood fun h => h.1 hb)
    · have hbm : mapG g.bad k = none := if_neg hb
      simp (config := { maxSteps := 2000000 }) only [hbm, cst0_bool, w1, Bool.not_not, ↓wPre, wPost, wFast, Nat.zero_add, Nat.add_zero, Nat.zero_lt_succ, Nat.min_self, Nat.zero_min, Nat.min_zero, Nat.sub_zero, Nat.zero_mul, Int.le_refl, Nat.le_refl, Nat.lt_irrefl, Nat.mul_one, Bool.false_eq_true, Bool.true_eq_false, decide_true, decide_false, decide_eq_true_eq, decide_eq_false_iff_not, Bool.not_true, Bool.not_false, Bool.not_eq_true', Bool.not_eq_false', Bool.and_true, Bool.true_and, Bool.false_and, beq_self_eq_true, ite_true, ite_false, true_and, and_true, false_and, and_false, not_true_eq_false, not_false_eq_true, false_implies, true_implies, implies_true, eq_self, ne_eq, or_true, true_or, or_false, false_or, Bool.or_false, Bool.or_true, Bool.false_or, Bool.true_or, Int.natCast_nonneg, Int.ofNat_lt, Int.ofNat_le, Int.ofNat_inj, Int.ofNat_zero, ↓reduceIte, reduceIte, Nat.reducePow, Nat.reduceLT, Nat.reduceLeDiff, Nat.reduceEqDiff, Nat.reduceAdd, Nat.reduceMul, Nat.reduceSub, Nat.reduceBEq, reduceCtorEq, sl1, wFacts, gmA]
      refine guardP_intro (fun ht => ret1E rfl rfl (settled_I _) (nogood fun h => ?_)) (fun hf => next (k + 1) _ (go (.inr (.inr ⟨hb, .inr ⟨by omega, ?_, fun m hm => ?_⟩⟩))) (by omega) (sub_cut (m := 3) (Nat.zero_le _) rfl ?_ ?_ ?_ (bel_c C g.own.length) (bel_tc _ _) (bel3c g R)))
      · rcases h.2 with h | h
        · exact o0 h.1
        · obtain ⟨m, hm, h2⟩ := List.any_eq_true.1 ht
          rw [h.2.2 m hm] at h2; cases h2
      · intro e
        have : (nx g k).length = 0 := by rw [e]; rfl
        rw [← hnx] at this; omega
      · cases hbe : below R k m with
        | true => rfl
        | false =>
          have : (nx g k).any (fun m => !below R k m) = true := List.any_eq_true.2 ⟨m, hm, by rw [hbe]; rfl⟩
          rw [this] at hf; cases hf
      · simp [subL, ints, sl1, I]
      · simp [subT, look, I]
      · simp [gmL, bdL, ints, intss, sl1]
  · have hno : ¬ okK g R C k := fun h => by
      rcases h.2 with h | h
      · exact o0 h.1
      · have h1 := h.2.1
        have : (nx g k).length = 0 := by rw [← hnx]; omega
        exact h1 (List.length_eq_zero_iff.1 this)
    by_cases hb : (k : Int) ∈ g.bad
    · have hbm : mapG g.bad k = some (.bool true) := if_pos hb
      simp (config := { maxSteps := 2000000 }) only [hbm, cst0_bool, w1, ↓wPre, wPost, wFast, Nat.zero_add, Nat.add_zero, Nat.zero_lt_succ, Nat.min_self, Nat.zero_min, Nat.min_zero, Nat.sub_zero, Nat.zero_mul, Int.le_refl, Nat.le_refl, Nat.lt_irrefl, Nat.mul_one, Bool.false_eq_true, Bool.true_eq_false, decide_true, decide_false, decide_eq_true_eq, decide_eq_false_iff_not, Bool.not_true, Bool.not_false, Bool.not_eq_true', Bool.not_eq_false', Bool.and_true, Bool.true_and, Bool.false_and, beq_self_eq_true, ite_true, ite_false, true_and, and_true, false_and, and_false, not_true_eq_false, not_false_eq_true, false_implies, true_implies, implies_true, eq_self, ne_eq, or_true, true_or, or_false, false_or, Bool.or_false, Bool.or_true, Bool.false_or, Bool.true_or, Int.natCast_nonneg, Int.ofNat_lt, Int.ofNat_le, Int.ofNat_inj, Int.ofNat_zero, ↓reduceIte, reduceIte, Nat.reducePow, Nat.reduceLT, Nat.reduceLeDiff, Nat.reduceEqDiff, Nat.reduceAdd, Nat.reduceMul, Nat.reduceSub, Nat.reduceBEq, reduceCtorEq, sl1, wFacts, gmA]
      exact ret1E rfl rfl (settled_I _) (nogood hno)
    · have hbm : mapG g.bad k = none := if_neg hb
      simp (config := { maxSteps := 2000000 }) only [hbm, cst0_bool, w1, ↓wPre, wPost, wFast, Nat.zero_add, Nat.add_zero, Nat.zero_lt_succ, Nat.min_self, Nat.zero_min, Nat.min_zero, Nat.sub_zero, Nat.zero_mul, Int.le_refl, Nat.le_refl, Nat.lt_irrefl, Nat.mul_one, Bool.false_eq_true, Bool.true_eq_false, decide_true, decide_false, decide_eq_true_eq, decide_eq_false_iff_not, Bool.not_true, Bool.not_false, Bool.not_eq_true', Bool.not_eq_false', Bool.and_true, Bool.true_and, Bool.false_and, beq_self_eq_true, ite_true, ite_false, true_and, and_true, false_and, and_false, not_true_eq_false, not_false_eq_true, false_implies, true_implies, implies_true, eq_self, ne_eq, or_true, true_or, or_false, false_or, Bool.or_false, Bool.or_true, Bool.false_or, Bool.true_or, Int.natCast_nonneg, Int.ofNat_lt, Int.ofNat_le, Int.ofNat_inj, Int.ofNat_zero, ↓reduceIte, reduceIte, Nat.reducePow, Nat.reduceLT, Nat.reduceLeDiff, Nat.reduceEqDiff, Nat.reduceAdd, Nat.reduceMul, Nat.reduceSub, Nat.reduceBEq, reduceCtorEq, sl1, wFacts, gmA]
      exact ret1E rfl rfl (settled_I _) (nogood hno)
end
end Go.Ab.G
