/- Contracts of functions of this chapter, for every argument that fits, and what they need. -/
import Derived.Test.YtlhlhpgcjjhjkaaG9
import Derived.Test.YtlhlhpgcjjhjkaaG7
set_option linter.unusedSimpArgs false
set_option linter.unusedVariables false
namespace Go.Ab.G
open Go Go.RowKit Go.Proofs
noncomputable section
set_option maxRecDepth 10000
set_option maxHeartbeats 2000000
set_option linter.unusedSimpArgs false
set_option linter.unusedVariables false
open Classical

/-! ### The reference's Counter -/
def dF (g : Gm) (k i : Nat) : Int := if rk g k < 0 ∧ ow g k = 1 ∧ (k : Int) ∉ g.bad then (((nx g k).take i).find? fun m => decide (rk g m.toNat < 0)).getD (-1) else -1
theorem dF_zero (g : Gm) (k : Nat) : dF g k 0 = -1 := by unfold dF; simp
theorem dF_end (g : Gm) (k : Nat) : dF g k (nx g k).length = ctrF g k := by unfold dF ctrF; rw [List.take_length]
theorem dF_succ (g : Gm) (hv : restG g) (k i : Nat) (hk : k < g.n) (hi : i < (nx g k).length) :
    dF g k (i + 1) = if dF g k i < 0 ∧ winF g k = 1 ∧ ow g k = 1 ∧ (k : Int) ∉ g.bad ∧ rk g ((nx g k).getD i 0).toNat < 0 then (nx g k).getD i 0 else dF g k i := by
  have hw : winF g k = 1 ↔ rk g k < 0 := by unfold winF; split <;> simp <;> omega
  unfold dF
  simp only [hw]
  by_cases h : rk g k < 0 ∧ ow g k = 1 ∧ (k : Int) ∉ g.bad
  · rw [if_pos h, if_pos h, take_succ_getD _ 0 i hi, List.find?_append]
    cases hf : ((nx g k).take i).find? fun m => decide (rk g m.toNat < 0) with
    | some x =>
      have hx : x ∈ (nx g k).take i := List.mem_of_find?_eq_some hf
      have := nx_in hv hk (List.mem_of_mem_take hx)
      simp only [Option.some_or, Option.getD_some]
      rw [if_neg (by omega)]
    | none =>
      simp only [Option.none_or, Option.getD_none]
      by_cases e : rk g ((nx g k).getD i 0).toNat < 0
      · rw [if_pos ⟨by omega, h.1, h.2.1, h.2.2, e⟩]
        rw [List.find?_cons_of_pos (by simpa using e)]; rfl
      · rw [if_neg fun h => e h.2.2.2.2, List.find?_cons_of_neg (by simpa using e)]; rfl
  · rw [if_neg h, if_neg h, if_neg fun h' => h ⟨h'.2.1, h'.2.2.1, h'.2.2.2.1⟩]

theorem rcounter_fn (g : Gm) (hs : smallG g) : Fn Try.prog 17 [gmA g] (.tup (if validF g ≠ 0 then [ints [], ints [], I (validF g)] else [ints (tab (winF g) g.n), ints (tab (ctrF g) g.n), I 0])) := by
  have hs' := hs
  obtain ⟨s1, s2, s3, s4, s5⟩ := hs
  obtain ⟨res, hres⟩ : ∃ r : AV, r = .tup (if validF g ≠ 0 then [ints [], ints [], I (validF g)] else [ints (tab (winF g) g.n), ints (tab (ctrF g) g.n), I 0]) := ⟨_, rfl⟩
  rw [← hres]
  refine Fn.intro (fn := Try.f17) Try.call17 Try.func17 rfl mixed 13 [] [] [] (by kernel_rfl) (Nat.le_of_ble_eq_true rfl) (by simp [settled_ints, settled_I, settled_fn0, settled_intss, settled_bool, settled_nil, settled_gmA]) (vc_soundN 1000 ?_); simp (config := { maxSteps := 2000000 }) only [AS.start, ↓wPre, wPost, wFast, Nat.zero_add, Nat.add_zero, Nat.zero_lt_succ, Nat.min_self, Nat.zero_min, Nat.min_zero, Nat.sub_zero, Nat.zero_mul, Int.le_refl, Nat.le_refl, Nat.lt_irrefl, Nat.mul_one, Bool.false_eq_true, Bool.true_eq_false, decide_true, decide_false, decide_eq_true_eq, decide_eq_false_iff_not, Bool.not_true, Bool.not_false, Bool.not_eq_true', Bool.not_eq_false', Bool.and_true, Bool.true_and, Bool.false_and, beq_self_eq_true, ite_true, ite_false, true_and, and_true, false_and, and_false, not_true_eq_false, not_false_eq_true, false_implies, true_implies, implies_true, eq_self, ne_eq, or_true, true_or, or_false, false_or, Bool.or_false, Bool.or_true, Bool.false_or, Bool.true_or, Int.natCast_nonneg, Int.ofNat_lt, Int.ofNat_le, Int.ofNat_inj, Int.ofNat_zero, ↓reduceIte, reduceIte, Nat.reducePow, Nat.reduceLT, Nat.reduceLeDiff, Nat.reduceEqDiff, Nat.reduceAdd, Nat.reduceMul, Nat.reduceSub, Nat.reduceBEq, reduceCtorEq, sl1, wFacts, gmA]
  refine call_fn (rvalid_fn g hs') rfl ?_
  simp only [gmL, ↓wPre, wPost, wFast, Nat.zero_add, Nat.add_zero, Nat.zero_lt_succ, Nat.min_self, Nat.zero_min, Nat.min_zero, Nat.sub_zero, Nat.zero_mul, Int.le_refl, Nat.le_refl, Nat.lt_irrefl, Nat.mul_one, Bool.false_eq_true, Bool.true_eq_false, decide_true, decide_false, decide_eq_true_eq, decide_eq_false_iff_not, Bool.not_true, Bool.not_false, Bool.not_eq_true', Bool.not_eq_false', Bool.and_true, Bool.true_and, Bool.false_and, beq_self_eq_true, ite_true, ite_false, true_and, and_true, false_and, and_false, not_true_eq_false, not_false_eq_true, false_implies, true_implies, implies_true, eq_self, ne_eq, or_true, true_or, or_false, false_or, Bool.or_false, Bool.or_true, Bool.false_or, Bool.true_or, Int.natCast_nonneg, Int.ofNat_lt, Int.ofNat_le, Int.ofNat_inj, Int.ofNat_zero, ↓reduceIte, reduceIte, Nat.reducePow, Nat.reduceLT, Nat.reduceLeDiff, Nat.reduceEqDiff, Nat.reduceAdd, Nat.reduceMul, Nat.reduceSub, Nat.reduceBEq, reduceCtorEq, sl1, wFacts, gmA]
  refine ⟨fun hv => ?_, fun hv => ?_⟩
  · rw [hres, if_pos hv]
    exact ret3 rfl (sees_tup ⟨sees_empty, sees_empty, (settled_I _).sees _, trivial⟩)
  rw [if_neg (by simpa using hv)] at hres
  have hv0 : validF g = 0 := by simpa using hv
  obtain ⟨hsz, hrest⟩ := valid_ok hv0
  have hsz2 : g.own.length ≤ 4096 := hsz.2
  have hn : g.n = g.own.length := rfl
  have hnl : g.nxt.length = g.own.length := hrest.1
  refine call_fn (rranks_fn g hs' hv0) rfl ?_
  have hRl : (tab (rk g) g.n).length = g.own.length := tab_len _ _
  have hRat : ∀ k, k < g.own.length → (tab (rk g) g.n).getD k 0 = rk g k := fun k hk => tab_at _ _ _ hk
  generalize tab (rk g) g.n = R at *
  have hRe : ints R = .sl g.own.length g.own.length (slF I 0 R) false := by unfold ints sl1; rw [hRl]
  simp only [hRl, ↓wPre, wPost, wFast, Nat.zero_add, Nat.add_zero, Nat.zero_lt_succ, Nat.min_self, Nat.zero_min, Nat.min_zero, Nat.sub_zero, Nat.zero_mul, Int.le_refl, Nat.le_refl, Nat.lt_irrefl, Nat.mul_one, Bool.false_eq_true, Bool.true_eq_false, decide_true, decide_false, decide_eq_true_eq, decide_eq_false_iff_not, Bool.not_true, Bool.not_false, Bool.not_eq_true', Bool.not_eq_false', Bool.and_true, Bool.true_and, Bool.false_and, beq_self_eq_true, ite_true, ite_false, true_and, and_true, false_and, and_false, not_true_eq_false, not_false_eq_true, false_implies, true_implies, implies_true, eq_self, ne_eq, or_true, true_or, or_false, false_or, Bool.or_false, Bool.or_true, Bool.false_or, Bool.true_or, Int.natCast_nonneg, Int.ofNat_lt, Int.ofNat_le, Int.ofNat_inj, Int.ofNat_zero, ↓reduceIte, reduceIte, Nat.reducePow, Nat.reduceLT, Nat.reduceLeDiff, Nat.reduceEqDiff, Nat.reduceAdd, Nat.reduceMul, Nat.reduceSub, Nat.reduceBEq, reduceCtorEq, sl1, wFacts, gmA]
  refine run_loop (fun k : Nat => ⟨13, [], [.any, .ref 0 0 0, .any, .any, .any, .any, ints R, .osl 1 k 1 0 k, .osl 2 k 1 0 k, I k, .any, .any, .any], [], [.row 0 4 (ofL (gmL g)), .row k k (slF I 0 (tab (winF g) k)), .row k k (slF I 0 (tab (ctrF g) k))]⟩) (fun k => k ≤ g.own.length) (fun k => g.own.length - k) 0 (by omega)
    ((sub_adopt 7 1 (slF I 0 []) rfl).trans ((sub_adopt 8 1 (slF I 0 []) rfl).trans (sub_mk rfl ?_ ?_ ?_))) ?_
  · simp [AS.put, subL, I, hRe]
  · simp [AS.put, subT]
  · simp [AS.put, gmL, ints, intss, sl1, tab]
  intro k hk next
  have w1 := wj k (by omega)
  refine vc_soundN 1000 ?_
  simp (config := { maxSteps := 2000000 }) only [w1, gmL, hRl, ↓wPre, wPost, wFast, Nat.zero_add, Nat.add_zero, Nat.zero_lt_succ, Nat.min_self, Nat.zero_min, Nat.min_zero, Nat.sub_zero, Nat.zero_mul, Int.le_refl, Nat.le_refl, Nat.lt_irrefl, Nat.mul_one, Bool.false_eq_true, Bool.true_eq_false, decide_true, decide_false, decide_eq_true_eq, decide_eq_false_iff_not, Bool.not_true, Bool.not_false, Bool.not_eq_true', Bool.not_eq_false', Bool.and_true, Bool.true_and, Bool.false_and, beq_self_eq_true, ite_true, ite_false, true_and, and_true, false_and, and_false, not_true_eq_false, not_false_eq_true, false_implies, true_implies, implies_true, eq_self, ne_eq, or_true, true_or, or_false, false_or, Bool.or_false, Bool.or_true, Bool.false_or, Bool.true_or, Int.natCast_nonneg, Int.ofNat_lt, Int.ofNat_le, Int.ofNat_inj, Int.ofNat_zero, ↓reduceIte, reduceIte, Nat.reducePow, Nat.reduceLT, Nat.reduceLeDiff, Nat.reduceEqDiff, Nat.reduceAdd, Nat.reduceMul, Nat.reduceSub, Nat.reduceBEq, reduceCtorEq, sl1, wFacts, gmA]
  refine ⟨fun h => ?_, fun h => ?_⟩
  rotate_left
  · have hk' : k = g.own.length := by omega
    subst hk'
    rw [hres]
    exact ret3 rfl (sees_tup ⟨sees_intsE rfl rfl (by rw [tab_len]; rfl) rfl (by rw [tab_len]; exact Nat.le_refl _), sees_intsE rfl rfl (by rw [tab_len]; rfl) rfl (by rw [tab_len]; exact Nat.le_refl _), (settled_I _).sees _, trivial⟩)
  have hkn : k < g.n := h
  have hnx : g.nxt.getD k [] = nx g k := rfl
  have how : g.own.getD k 0 = ow g k := rfl
  have hris := (hrest.2.2.2 k hkn).2.1
  have hnxl : (nx g k).length ≤ g.own.length := rising_len hris
  have hat := hRat k h
  rw [hat]
  refine ⟨h, by omega, fun e1 => ?_, fun e1 => ?_⟩
  all_goals
    refine run_loop (fun i : Nat => ⟨13, [], [.any, .ref 0 0 0, .any, .any, .any, .any, ints R, .osl 1 k 1 0 k, .osl 2 k 1 0 k, I k, I (winF g k), I (dF g k i), I i], [], [.row 0 4 (ofL (gmL g)), .row k k (slF I 0 (tab (winF g) k)), .row k k (slF I 0 (tab (ctrF g) k))]⟩) (fun i => i ≤ (nx g k).length) (fun i => (nx g k).length - i) 0 (by omega)
      (sub_mk rfl ?_ ?_ ?_) ?_
    · simp [subL, I, hRe, dF_zero, winF, e1]
    · simp [subT]
    · simp [gmL, ints, intss, sl1]
    intro i hi nexti
    have w2 := wj i (by omega)
    have hap1 := appF_I (tab (winF g) k) (winF g k)
    rw [tab_len, ← tab_succ] at hap1
    have hap2 := appF_I (tab (ctrF g) k) (ctrF g k)
    rw [tab_len, ← tab_succ] at hap2
    have hlast := dF_end g k
    refine vc_soundN 1000 ?_
    simp (config := { maxSteps := 4000000 }) only [w1, w2, hnx, how, gmL, hRl, ↓wPre, wPost, wFast, Nat.zero_add, Nat.add_zero, Nat.zero_lt_succ, Nat.min_self, Nat.zero_min, Nat.min_zero, Nat.sub_zero, Nat.zero_mul, Int.le_refl, Nat.le_refl, Nat.lt_irrefl, Nat.mul_one, Bool.false_eq_true, Bool.true_eq_false, decide_true, decide_false, decide_eq_true_eq, decide_eq_false_iff_not, Bool.not_true, Bool.not_false, Bool.not_eq_true', Bool.not_eq_false', Bool.and_true, Bool.true_and, Bool.false_and, beq_self_eq_true, ite_true, ite_false, true_and, and_true, false_and, and_false, not_true_eq_false, not_false_eq_true, false_implies, true_implies, implies_true, eq_self, ne_eq, or_true, true_or, or_false, false_or, Bool.or_false, Bool.or_true, Bool.false_or, Bool.true_or, Int.natCast_nonneg, Int.ofNat_lt, Int.ofNat_le, Int.ofNat_inj, Int.ofNat_zero, ↓reduceIte, reduceIte, Nat.reducePow, Nat.reduceLT, Nat.reduceLeDiff, Nat.reduceEqDiff, Nat.reduceAdd, Nat.reduceMul, Nat.reduceSub, Nat.reduceBEq, reduceCtorEq, sl1, wFacts, gmA]
    refine ⟨by omega, by omega, fun h2 => ?_, fun h2 => ?_⟩
    rotate_left
    · have hi' : i = (nx g k).length := by omega
      subst hi'
      rw [hlast, hap1, hap2]
      refine ⟨⟨by omega, by omega⟩, ⟨by omega, by omega⟩, next (k + 1) _ (by omega) (by omega) (sub_mk rfl ?_ ?_ ?_)⟩
      · simp [subL, I, hRe]
      · simp [subT]
      · simp [gmL, ints, intss, sl1]
    obtain ⟨hm1, hm2⟩ := rising_mem hris (getD_mem (d := 0) h2)
    have hc := dF_succ g hrest k i hkn h2
    have hfin := nexti (i + 1)
    rw [hc] at hfin
    have hat2 := hRat ((nx g k).getD i 0).toNat (by omega)
    have fin : ∀ (x : Int) (tm : List (Nat × AV)), x = (if dF g k i < 0 ∧ winF g k = 1 ∧ ow g k = 1 ∧ (k : Int) ∉ g.bad ∧ rk g ((nx g k).getD i 0).toNat < 0 then (nx g k).getD i 0 else dF g k i) → Run (envP Try.prog Try.f17 [] [] res) _ ⟨13, [], [.any, .ref 0 0 0, .any, .any, .any, .any, .sl g.own.length g.own.length (slF I 0 R) false, .osl 1 k 1 0 k, .osl 2 k 1 0 k, .int .i64 k, .int .i64 (winF g k), .int .i64 x, .int .i64 (i + 1 : Nat)], tm, [.row 0 4 (ofL [.sl g.own.length g.own.length (slF I 0 g.own) false, .sl g.nxt.length g.nxt.length (slF ints [] g.nxt) false, .sl g.goal.length g.goal.length (slF I 0 g.goal) false, .sl g.bad.length g.bad.length (slF I 0 g.bad) false]), .row k k (slF I 0 (tab (winF g) k)), .row k k (slF I 0 (tab (ctrF g) k))]⟩ := fun x tm hx =>
      hfin _ (by omega) (by omega) (sub_mk rfl (by simp [subL, I, hRe, hx]) (by simp [subT]) (by simp [gmL, ints, intss, sl1]))
    refine ⟨fun c1 => ⟨fun c2 => ⟨h, h, fun c3 => call_fn (has_fn g.bad k s4) rfl ?_, fun c3 => fin _ _ ?_⟩, fun c2 => fin _ _ ?_⟩, fun c1 => fin _ _ ?_⟩
    · simp (config := { maxSteps := 4000000 }) only [w1, w2, hnx, how, hat2, gmL, hRl, ↓wPre, wPost, wFast, Nat.zero_add, Nat.add_zero, Nat.zero_lt_succ, Nat.min_self, Nat.zero_min, Nat.min_zero, Nat.sub_zero, Nat.zero_mul, Int.le_refl, Nat.le_refl, Nat.lt_irrefl, Nat.mul_one, Bool.false_eq_true, Bool.true_eq_false, decide_true, decide_false, decide_eq_true_eq, decide_eq_false_iff_not, Bool.not_true, Bool.not_false, Bool.not_eq_true', Bool.not_eq_false', Bool.and_true, Bool.true_and, Bool.false_and, beq_self_eq_true, ite_true, ite_false, true_and, and_true, false_and, and_false, not_true_eq_false, not_false_eq_true, false_implies, true_implies, implies_true, eq_self, ne_eq, or_true, true_or, or_false, false_or, Bool.or_false, Bool.or_true, Bool.false_or, Bool.true_or, Int.natCast_nonneg, Int.ofNat_lt, Int.ofNat_le, Int.ofNat_inj, Int.ofNat_zero, ↓reduceIte, reduceIte, Nat.reducePow, Nat.reduceLT, Nat.reduceLeDiff, Nat.reduceEqDiff, Nat.reduceAdd, Nat.reduceMul, Nat.reduceSub, Nat.reduceBEq, reduceCtorEq, sl1, wFacts, gmA]
      refine ⟨fun c4 => ⟨by omega, by omega, h2, h2, ⟨hm1, by omega⟩, by omega, fun c5 => ⟨by omega, by omega, h2, h2, fin _ _ ?_⟩, fun c5 => fin _ _ ?_⟩, fun c4 => fin _ _ ?_⟩
      · rw [if_pos ⟨c1, c2, c3, c4, c5⟩]
      · rw [if_neg fun e => c5 e.2.2.2.2]
      · rw [if_neg fun e => e.2.2.2.1 c4]
    · rw [if_neg fun e => c3 e.2.2.1]
    · rw [if_neg fun e => c2 e.2.1]
    · rw [if_neg fun e => c1 e.1]
end
end Go.Ab.G
