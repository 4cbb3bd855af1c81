/- Contracts of functions of this chapter, for every argument that fits, and what they need. -/
import Derived.Test.YtlhlhpgcjjhjkaaG7
set_option linter.unusedSimpArgs false
set_option linter.unusedVariables false
namespace Go.Ab.G
open Go Go.RowKit Go.Proofs
noncomputable section
set_option maxRecDepth 10000
set_option maxHeartbeats 2000000
set_option linter.unusedSimpArgs false
set_option linter.unusedVariables false
open Classical

def cF (g : Gm) (k i : Nat) : Int := if 0 < rk g k ∧ ow g k = 0 then (((nx g k).take i).find? fun m => decide (rk g m.toNat = rk g k - 1)).getD (-1) else -1
theorem cF_zero (g : Gm) (k : Nat) : cF g k 0 = -1 := by unfold cF; simp
theorem cF_end (g : Gm) (k : Nat) : cF g k (nx g k).length = choF g k := by unfold cF choF; rw [List.take_length]
theorem cF_succ (g : Gm) (hv : restG g) (k i : Nat) (hk : k < g.n) (hi : i < (nx g k).length) :
    cF g k (i + 1) = if cF g k i < 0 ∧ ow g k = 0 ∧ 0 < rk g k ∧ rk g ((nx g k).getD i 0).toNat = rk g k - 1 then (nx g k).getD i 0 else cF g k i := by
  unfold cF
  by_cases h : 0 < rk g k ∧ ow g k = 0
  · rw [if_pos h, if_pos h, take_succ_getD _ 0 i hi, List.find?_append]
    cases hf : ((nx g k).take i).find? fun m => decide (rk g m.toNat = rk g k - 1) with
    | some x =>
      have hx : x ∈ (nx g k).take i := List.mem_of_find?_eq_some hf
      have := nx_in hv hk (List.mem_of_mem_take hx)
      simp only [Option.some_or, Option.getD_some]
      rw [if_neg (by omega)]
    | none =>
      simp only [Option.none_or, Option.getD_none]
      by_cases e : rk g ((nx g k).getD i 0).toNat = rk g k - 1
      · rw [if_pos ⟨by omega, h.2, h.1, e⟩]
        rw [List.find?_cons_of_pos (by simpa using e)]; rfl
      · rw [if_neg fun h => e h.2.2.2, List.find?_cons_of_neg (by simpa using e)]; rfl
  · rw [if_neg h, if_neg h, if_neg fun h' => h ⟨h'.2.2.1, h'.2.1⟩]

theorem rsolve_fn (g : Gm) (hs : smallG g) : Fn Try.prog 12 [gmA g] (.tup (if validF g ≠ 0 then [ints [], ints [], I (validF g)] else [ints (tab (rk g) g.n), ints (tab (choF g) g.n), I 0])) := by
  have hs' := hs
  obtain ⟨s1, s2, s3, s4, s5⟩ := hs
  obtain ⟨res, hres⟩ : ∃ r : AV, r = .tup (if validF g ≠ 0 then [ints [], ints [], I (validF g)] else [ints (tab (rk g) g.n), ints (tab (choF g) g.n), I 0]) := ⟨_, rfl⟩
  rw [← hres]
  refine Fn.intro (fn := Try.f12) Try.call12 Try.func12 rfl mixed 11 [] [] [] (by kernel_rfl) (Nat.le_of_ble_eq_true rfl) (by simp [settled_ints, settled_I, settled_fn0, settled_intss, settled_bool, settled_nil, settled_gmA]) (vc_soundN 1000 ?_); simp (config := { maxSteps := 2000000 }) only [AS.start, ↓wPre, wPost, wFast, Nat.zero_add, Nat.add_zero, Nat.zero_lt_succ, Nat.min_self, Nat.zero_min, Nat.min_zero, Nat.sub_zero, Nat.zero_mul, Int.le_refl, Nat.le_refl, Nat.lt_irrefl, Nat.mul_one, Bool.false_eq_true, Bool.true_eq_false, decide_true, decide_false, decide_eq_true_eq, decide_eq_false_iff_not, Bool.not_true, Bool.not_false, Bool.not_eq_true', Bool.not_eq_false', Bool.and_true, Bool.true_and, Bool.false_and, beq_self_eq_true, ite_true, ite_false, true_and, and_true, false_and, and_false, not_true_eq_false, not_false_eq_true, false_implies, true_implies, implies_true, eq_self, ne_eq, or_true, true_or, or_false, false_or, Bool.or_false, Bool.or_true, Bool.false_or, Bool.true_or, Int.natCast_nonneg, Int.ofNat_lt, Int.ofNat_le, Int.ofNat_inj, Int.ofNat_zero, ↓reduceIte, reduceIte, Nat.reducePow, Nat.reduceLT, Nat.reduceLeDiff, Nat.reduceEqDiff, Nat.reduceAdd, Nat.reduceMul, Nat.reduceSub, Nat.reduceBEq, reduceCtorEq, sl1, wFacts, gmA]
  refine call_fn (rvalid_fn g hs') rfl ?_
  simp only [gmL, ↓wPre, wPost, wFast, Nat.zero_add, Nat.add_zero, Nat.zero_lt_succ, Nat.min_self, Nat.zero_min, Nat.min_zero, Nat.sub_zero, Nat.zero_mul, Int.le_refl, Nat.le_refl, Nat.lt_irrefl, Nat.mul_one, Bool.false_eq_true, Bool.true_eq_false, decide_true, decide_false, decide_eq_true_eq, decide_eq_false_iff_not, Bool.not_true, Bool.not_false, Bool.not_eq_true', Bool.not_eq_false', Bool.and_true, Bool.true_and, Bool.false_and, beq_self_eq_true, ite_true, ite_false, true_and, and_true, false_and, and_false, not_true_eq_false, not_false_eq_true, false_implies, true_implies, implies_true, eq_self, ne_eq, or_true, true_or, or_false, false_or, Bool.or_false, Bool.or_true, Bool.false_or, Bool.true_or, Int.natCast_nonneg, Int.ofNat_lt, Int.ofNat_le, Int.ofNat_inj, Int.ofNat_zero, ↓reduceIte, reduceIte, Nat.reducePow, Nat.reduceLT, Nat.reduceLeDiff, Nat.reduceEqDiff, Nat.reduceAdd, Nat.reduceMul, Nat.reduceSub, Nat.reduceBEq, reduceCtorEq, sl1, wFacts, gmA]
  refine ⟨fun hv => ?_, fun hv => ?_⟩
  · rw [hres, if_pos hv]
    exact ret3 rfl (sees_tup ⟨sees_empty, sees_empty, (settled_I _).sees _, trivial⟩)
  rw [if_neg (by simpa using hv)] at hres
  have hv0 : validF g = 0 := by simpa using hv
  obtain ⟨hsz, hrest⟩ := valid_ok hv0
  have hsz2 : g.own.length ≤ 4096 := hsz.2
  have hn : g.n = g.own.length := rfl
  have hnl : g.nxt.length = g.own.length := hrest.1
  refine call_fn (rranks_fn g hs' hv0) rfl ?_
  have hRl : (tab (rk g) g.n).length = g.own.length := tab_len _ _
  have hRat : ∀ k, k < g.own.length → (tab (rk g) g.n).getD k 0 = rk g k := fun k hk => tab_at _ _ _ hk
  generalize tab (rk g) g.n = R at *
  have hRe : ints R = .sl g.own.length g.own.length (slF I 0 R) false := by unfold ints sl1; rw [hRl]
  simp only [hRl, ↓wPre, wPost, wFast, Nat.zero_add, Nat.add_zero, Nat.zero_lt_succ, Nat.min_self, Nat.zero_min, Nat.min_zero, Nat.sub_zero, Nat.zero_mul, Int.le_refl, Nat.le_refl, Nat.lt_irrefl, Nat.mul_one, Bool.false_eq_true, Bool.true_eq_false, decide_true, decide_false, decide_eq_true_eq, decide_eq_false_iff_not, Bool.not_true, Bool.not_false, Bool.not_eq_true', Bool.not_eq_false', Bool.and_true, Bool.true_and, Bool.false_and, beq_self_eq_true, ite_true, ite_false, true_and, and_true, false_and, and_false, not_true_eq_false, not_false_eq_true, false_implies, true_implies, implies_true, eq_self, ne_eq, or_true, true_or, or_false, false_or, Bool.or_false, Bool.or_true, Bool.false_or, Bool.true_or, Int.natCast_nonneg, Int.ofNat_lt, Int.ofNat_le, Int.ofNat_inj, Int.ofNat_zero, ↓reduceIte, reduceIte, Nat.reducePow, Nat.reduceLT, Nat.reduceLeDiff, Nat.reduceEqDiff, Nat.reduceAdd, Nat.reduceMul, Nat.reduceSub, Nat.reduceBEq, reduceCtorEq, sl1, wFacts, gmA]
  refine run_loop (fun k : Nat => ⟨11, [], [.any, .ref 0 0 0, .any, .any, .any, .any, ints R, .osl 1 k 1 0 k, I k, .any, .any], [], [.row 0 4 (ofL (gmL g)), .row k k (slF I 0 (tab (choF g) k))]⟩) (fun k => k ≤ g.own.length) (fun k => g.own.length - k) 0 (by omega)
    ((sub_adopt 7 1 (slF I 0 []) rfl).trans (sub_mk rfl ?_ ?_ ?_)) ?_
  · simp [AS.put, subL, I, hRe]
  · simp [AS.put, subT]
  · simp [AS.put, gmL, ints, intss, sl1, tab]
  intro k hk next
  have w1 := wj k (by omega)
  refine vc_soundN 1000 ?_
  by_cases h : k < g.own.length
  rotate_left
  · simp only [w1, h, gmL, hRl, ↓wPre, wPost, wFast, Nat.zero_add, Nat.add_zero, Nat.zero_lt_succ, Nat.min_self, Nat.zero_min, Nat.min_zero, Nat.sub_zero, Nat.zero_mul, Int.le_refl, Nat.le_refl, Nat.lt_irrefl, Nat.mul_one, Bool.false_eq_true, Bool.true_eq_false, decide_true, decide_false, decide_eq_true_eq, decide_eq_false_iff_not, Bool.not_true, Bool.not_false, Bool.not_eq_true', Bool.not_eq_false', Bool.and_true, Bool.true_and, Bool.false_and, beq_self_eq_true, ite_true, ite_false, true_and, and_true, false_and, and_false, not_true_eq_false, not_false_eq_true, false_implies, true_implies, implies_true, eq_self, ne_eq, or_true, true_or, or_false, false_or, Bool.or_false, Bool.or_true, Bool.false_or, Bool.true_or, Int.natCast_nonneg, Int.ofNat_lt, Int.ofNat_le, Int.ofNat_inj, Int.ofNat_zero, ↓reduceIte, reduceIte, Nat.reducePow, Nat.reduceLT, Nat.reduceLeDiff, Nat.reduceEqDiff, Nat.reduceAdd, Nat.reduceMul, Nat.reduceSub, Nat.reduceBEq, reduceCtorEq, sl1, wFacts, gmA]
    have hk' : k = g.own.length := by omega
    subst hk'
    rw [hres]
    refine ret3 rfl (sees_tup ⟨sees_of (settled_ints R) hRe.symm, sees_intsE rfl rfl (by rw [tab_len]; rfl) rfl (by rw [tab_len]; exact Nat.le_refl _), (settled_I _).sees _, trivial⟩)
  have hkn : k < g.n := h
  have hnx : g.nxt.getD k [] = nx g k := rfl
  have how : g.own.getD k 0 = ow g k := rfl
  have hris := (hrest.2.2.2 k hkn).2.1
  have hnxl : (nx g k).length ≤ g.own.length := rising_len hris
  simp (config := { maxSteps := 2000000 }) only [w1, h, hRl, gmL, ↓wPre, wPost, wFast, Nat.zero_add, Nat.add_zero, Nat.zero_lt_succ, Nat.min_self, Nat.zero_min, Nat.min_zero, Nat.sub_zero, Nat.zero_mul, Int.le_refl, Nat.le_refl, Nat.lt_irrefl, Nat.mul_one, Bool.false_eq_true, Bool.true_eq_false, decide_true, decide_false, decide_eq_true_eq, decide_eq_false_iff_not, Bool.not_true, Bool.not_false, Bool.not_eq_true', Bool.not_eq_false', Bool.and_true, Bool.true_and, Bool.false_and, beq_self_eq_true, ite_true, ite_false, true_and, and_true, false_and, and_false, not_true_eq_false, not_false_eq_true, false_implies, true_implies, implies_true, eq_self, ne_eq, or_true, true_or, or_false, false_or, Bool.or_false, Bool.or_true, Bool.false_or, Bool.true_or, Int.natCast_nonneg, Int.ofNat_lt, Int.ofNat_le, Int.ofNat_inj, Int.ofNat_zero, ↓reduceIte, reduceIte, Nat.reducePow, Nat.reduceLT, Nat.reduceLeDiff, Nat.reduceEqDiff, Nat.reduceAdd, Nat.reduceMul, Nat.reduceSub, Nat.reduceBEq, reduceCtorEq, sl1, wFacts, gmA]
  refine run_loop (fun i : Nat => ⟨11, [], [.any, .ref 0 0 0, .any, .any, .any, .any, ints R, .osl 1 k 1 0 k, I k, I (cF g k i), I i], [], [.row 0 4 (ofL (gmL g)), .row k k (slF I 0 (tab (choF g) k))]⟩) (fun i => i ≤ (nx g k).length) (fun i => (nx g k).length - i) 0 (by omega)
    (sub_mk rfl ?_ ?_ ?_) ?_
  · simp [subL, I, hRe, cF_zero]
  · simp [subT]
  · simp [gmL, ints, intss, sl1]
  intro i hi nexti
  have w2 := wj i (by omega)
  refine vc_soundN 1000 ?_
  by_cases h2 : i < (nx g k).length
  rotate_left
  · simp (config := { maxSteps := 2000000 }) only [w1, w2, hnx, h2, gmL, hRl, ↓wPre, wPost, wFast, Nat.zero_add, Nat.add_zero, Nat.zero_lt_succ, Nat.min_self, Nat.zero_min, Nat.min_zero, Nat.sub_zero, Nat.zero_mul, Int.le_refl, Nat.le_refl, Nat.lt_irrefl, Nat.mul_one, Bool.false_eq_true, Bool.true_eq_false, decide_true, decide_false, decide_eq_true_eq, decide_eq_false_iff_not, Bool.not_true, Bool.not_false, Bool.not_eq_true', Bool.not_eq_false', Bool.and_true, Bool.true_and, Bool.false_and, beq_self_eq_true, ite_true, ite_false, true_and, and_true, false_and, and_false, not_true_eq_false, not_false_eq_true, false_implies, true_implies, implies_true, eq_self, ne_eq, or_true, true_or, or_false, false_or, Bool.or_false, Bool.or_true, Bool.false_or, Bool.true_or, Int.natCast_nonneg, Int.ofNat_lt, Int.ofNat_le, Int.ofNat_inj, Int.ofNat_zero, ↓reduceIte, reduceIte, Nat.reducePow, Nat.reduceLT, Nat.reduceLeDiff, Nat.reduceEqDiff, Nat.reduceAdd, Nat.reduceMul, Nat.reduceSub, Nat.reduceBEq, reduceCtorEq, sl1, wFacts, gmA]
    have hi' : i = (nx g k).length := by omega
    subst hi'
    have hap := appF_I (tab (choF g) k) (choF g k)
    rw [tab_len, ← tab_succ] at hap
    rw [cF_end, hap]
    refine ⟨by omega, by omega, ⟨by omega, by omega⟩, next (k + 1) _ (by omega) (by omega) (sub_mk rfl ?_ ?_ ?_)⟩
    · simp [subL, I, hRe]
    · simp [subT]
    · simp [gmL, ints, intss, sl1]
  obtain ⟨hm1, hm2⟩ := rising_mem hris (getD_mem (d := 0) h2)
  have hc := cF_succ g hrest k i hkn h2
  have hfin := nexti (i + 1)
  rw [hc] at hfin
  clear nexti next
  have hrb := in64_rk g hsz k
  have w3 : IntKind.i64.wrap (rk g k - 1) = rk g k - 1 := by rw [IntKind.wrap_i64]; omega
  have hat := hRat k h
  have hat2 := hRat ((nx g k).getD i 0).toNat (by omega)
  generalize cF g k i = c at *
  simp (config := { maxSteps := 2000000 }) only [w1, w2, w3, hnx, how, h, h2, hat, hat2, gmL, hRl, ↓wPre, wPost, wFast, Nat.zero_add, Nat.add_zero, Nat.zero_lt_succ, Nat.min_self, Nat.zero_min, Nat.min_zero, Nat.sub_zero, Nat.zero_mul, Int.le_refl, Nat.le_refl, Nat.lt_irrefl, Nat.mul_one, Bool.false_eq_true, Bool.true_eq_false, decide_true, decide_false, decide_eq_true_eq, decide_eq_false_iff_not, Bool.not_true, Bool.not_false, Bool.not_eq_true', Bool.not_eq_false', Bool.and_true, Bool.true_and, Bool.false_and, beq_self_eq_true, ite_true, ite_false, true_and, and_true, false_and, and_false, not_true_eq_false, not_false_eq_true, false_implies, true_implies, implies_true, eq_self, ne_eq, or_true, true_or, or_false, false_or, Bool.or_false, Bool.or_true, Bool.false_or, Bool.true_or, Int.natCast_nonneg, Int.ofNat_lt, Int.ofNat_le, Int.ofNat_inj, Int.ofNat_zero, ↓reduceIte, reduceIte, Nat.reducePow, Nat.reduceLT, Nat.reduceLeDiff, Nat.reduceEqDiff, Nat.reduceAdd, Nat.reduceMul, Nat.reduceSub, Nat.reduceBEq, reduceCtorEq, sl1, wFacts, gmA]
  have fin : ∀ (x : Int) (tm : List (Nat × AV)), x = (if c < 0 ∧ ow g k = 0 ∧ 0 < rk g k ∧ rk g ((nx g k).getD i 0).toNat = rk g k - 1 then (nx g k).getD i 0 else c) → Run (envP Try.prog Try.f12 [] [] res) _ ⟨11, [], [.any, .ref 0 0 0, .any, .any, .any, .any, .sl g.own.length g.own.length (slF I 0 R) false, .osl 1 k 1 0 k, .int .i64 k, .int .i64 x, .int .i64 (i + 1 : Nat)], tm, [.row 0 4 (ofL [.sl g.own.length g.own.length (slF I 0 g.own) false, .sl g.nxt.length g.nxt.length (slF ints [] g.nxt) false, .sl g.goal.length g.goal.length (slF I 0 g.goal) false, .sl g.bad.length g.bad.length (slF I 0 g.bad) false]), .row k k (slF I 0 (tab (choF g) k))]⟩ := fun x tm hx =>
    hfin _ (by omega) (by omega) (sub_mk rfl (by simp [subL, I, hRe, hx]) (by simp [subT]) (by simp [gmL, ints, intss, sl1]))
  refine ⟨by omega, by omega, fun e1 => ⟨fun e2 => ⟨fun e3 => ⟨by omega, by omega, ⟨by omega, by omega⟩, by omega, fun e4 => ⟨by omega, by omega, fin _ _ ?_⟩, fun e4 => fin _ _ ?_⟩, fun e3 => fin _ _ ?_⟩, fun e2 => fin _ _ ?_⟩, fun e1 => fin _ _ ?_⟩
  · rw [if_pos ⟨e1, e2, e3, e4⟩]
  · rw [if_neg fun e => e4 e.2.2.2]
  · rw [if_neg fun e => e3 e.2.2.1]
  · rw [if_neg fun e => e2 e.2.1]
  · rw [if_neg fun e => e1 e.1]
end
end Go.Ab.G
