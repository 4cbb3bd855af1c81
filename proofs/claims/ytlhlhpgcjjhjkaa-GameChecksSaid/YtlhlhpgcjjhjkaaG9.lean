/- Contracts of functions of this chapter, for every argument that fits, and what they need. -/
import Derived.Test.YtlhlhpgcjjhjkaaG6
set_option linter.unusedSimpArgs false
set_option linter.unusedVariables false
namespace Go.Ab.G
open Go Go.RowKit Go.Proofs
noncomputable section
set_option maxRecDepth 10000
set_option maxHeartbeats 2000000
set_option linter.unusedSimpArgs false
set_option linter.unusedVariables false
open Classical

/-! ### What the faults win -/
def winF (g : Gm) (k : Nat) : Int := if rk g k < 0 then 1 else 0
def ctrF (g : Gm) (k : Nat) : Int := if rk g k < 0 ∧ ow g k = 1 ∧ (k : Int) ∉ g.bad then ((nx g k).find? fun m => decide (rk g m.toNat < 0)).getD (-1) else -1
def upTo (f : Nat → Int) (n k : Nat) : List Int := tab (fun q => if q < k then f q else 0) n
theorem upTo_len (f : Nat → Int) (n k : Nat) : (upTo f n k).length = n := tab_len _ _
theorem upTo_set (f : Nat → Int) (n k : Nat) (h : k < n) : (upTo f n k).set k (f k) = upTo f n (k + 1) := by
  unfold upTo
  rw [tab_set _ _ _ _ h]
  refine tab_congr fun q _ => ?_
  by_cases e : q = k
  · subst e; rw [if_pos rfl, if_pos (show q < q + 1 by omega)]
  · rw [if_neg e]
    by_cases h1 : q < k
    · rw [if_pos h1, if_pos (show q < k + 1 by omega)]
    · rw [if_neg h1, if_neg (show ¬ q < k + 1 by omega)]
theorem upTo_zero_set (f : Nat → Int) (n k : Nat) (h : k < n) (hz : f k = 0) : upTo f n k = upTo f n (k + 1) := by
  unfold upTo
  refine tab_congr fun q _ => ?_
  by_cases e : q = k
  · subst e; rw [if_neg (by omega), if_pos (show q < q + 1 by omega), hz]
  · by_cases h1 : q < k
    · rw [if_pos h1, if_pos (show q < k + 1 by omega)]
    · rw [if_neg h1, if_neg (show ¬ q < k + 1 by omega)]
theorem upTo_end (f : Nat → Int) (n : Nat) : upTo f n n = tab f n := tab_congr fun q hq => if_pos hq
theorem upTo_zero (f : Nat → Int) (n j : Nat) (h : j < n) : (upTo f n 0).getD j 0 = 0 := by unfold upTo; rw [tab_at _ _ _ h, if_neg (by omega)]
theorem find_hit {p : Int → Bool} {s : List Int} {i : Nat} (hi : i < s.length) (h : p (s.getD i 0) = true) (hno : ∀ j, j < i → p (s.getD j 0) = false) : s.find? p = some (s.getD i 0) := by
  have := idxF_hit hi h hno
  have ha : s.any p = true := List.any_eq_true.2 ⟨_, getD_mem hi, h⟩
  obtain ⟨e1, e2⟩ := find_idx p s ha
  unfold idxF at this
  rw [if_pos ha] at this
  rw [e1, show s.findIdx p = i by omega]
theorem find_none {p : Int → Bool} {s : List Int} (hno : ∀ j, j < s.length → p (s.getD j 0) = false) : s.find? p = none := by
  refine List.find?_eq_none.2 fun x hx => ?_
  obtain ⟨i, hi, rfl⟩ := List.getElem_of_mem hx
  have := hno i hi
  rw [List.getD_eq_getElem?_getD, List.getElem?_eq_getElem hi] at this
  simp only [Option.getD_some] at this
  simp [this]

theorem counter_fn (g : Gm) (hs : smallG g) : Fn Try.prog 16 [gmA g] (.tup (if validF g ≠ 0 then [ints [], ints [], I (validF g)] else [ints (tab (winF g) g.n), ints (tab (ctrF g) g.n), I 0])) := by
  have hs' := hs
  obtain ⟨s1, s2, s3, s4, s5⟩ := hs
  obtain ⟨res, hres⟩ : ∃ r : AV, r = .tup (if validF g ≠ 0 then [ints [], ints [], I (validF g)] else [ints (tab (winF g) g.n), ints (tab (ctrF g) g.n), I 0]) := ⟨_, rfl⟩
  rw [← hres]
  refine Fn.intro (fn := Try.f16) Try.call16 Try.func16 rfl mixed 13 [28, 29, 30, 60, 61, 62] [] [] (by kernel_rfl) (Nat.le_of_ble_eq_true rfl) (by simp [settled_ints, settled_I, settled_fn0, settled_intss, settled_bool, settled_nil, settled_gmA]) (vc_soundN 1000 ?_); simp (config := { maxSteps := 2000000 }) only [AS.start, ↓wPre, wPost, wFast, Nat.zero_add, Nat.add_zero, Nat.zero_lt_succ, Nat.min_self, Nat.zero_min, Nat.min_zero, Nat.sub_zero, Nat.zero_mul, Int.le_refl, Nat.le_refl, Nat.lt_irrefl, Nat.mul_one, Bool.false_eq_true, Bool.true_eq_false, decide_true, decide_false, decide_eq_true_eq, decide_eq_false_iff_not, Bool.not_true, Bool.not_false, Bool.not_eq_true', Bool.not_eq_false', Bool.and_true, Bool.true_and, Bool.false_and, beq_self_eq_true, ite_true, ite_false, true_and, and_true, false_and, and_false, not_true_eq_false, not_false_eq_true, false_implies, true_implies, implies_true, eq_self, ne_eq, or_true, true_or, or_false, false_or, Bool.or_false, Bool.or_true, Bool.false_or, Bool.true_or, Int.natCast_nonneg, Int.ofNat_lt, Int.ofNat_le, Int.ofNat_inj, Int.ofNat_zero, ↓reduceIte, reduceIte, Nat.reducePow, Nat.reduceLT, Nat.reduceLeDiff, Nat.reduceEqDiff, Nat.reduceAdd, Nat.reduceMul, Nat.reduceSub, Nat.reduceBEq, reduceCtorEq, sl1, wFacts, gmA]
  refine call_fn (valid_fn g hs') rfl ?_
  simp only [gmL, ↓wPre, wPost, wFast, Nat.zero_add, Nat.add_zero, Nat.zero_lt_succ, Nat.min_self, Nat.zero_min, Nat.min_zero, Nat.sub_zero, Nat.zero_mul, Int.le_refl, Nat.le_refl, Nat.lt_irrefl, Nat.mul_one, Bool.false_eq_true, Bool.true_eq_false, decide_true, decide_false, decide_eq_true_eq, decide_eq_false_iff_not, Bool.not_true, Bool.not_false, Bool.not_eq_true', Bool.not_eq_false', Bool.and_true, Bool.true_and, Bool.false_and, beq_self_eq_true, ite_true, ite_false, true_and, and_true, false_and, and_false, not_true_eq_false, not_false_eq_true, false_implies, true_implies, implies_true, eq_self, ne_eq, or_true, true_or, or_false, false_or, Bool.or_false, Bool.or_true, Bool.false_or, Bool.true_or, Int.natCast_nonneg, Int.ofNat_lt, Int.ofNat_le, Int.ofNat_inj, Int.ofNat_zero, ↓reduceIte, reduceIte, Nat.reducePow, Nat.reduceLT, Nat.reduceLeDiff, Nat.reduceEqDiff, Nat.reduceAdd, Nat.reduceMul, Nat.reduceSub, Nat.reduceBEq, reduceCtorEq, sl1, wFacts, gmA]
  refine ⟨fun hv => ?_, fun hv => ?_⟩
  · rw [hres, if_pos hv]
    exact ret3 rfl (sees_tup ⟨sees_empty, sees_empty, (settled_I _).sees _, trivial⟩)
  rw [if_neg (by simpa using hv)] at hres
  have hv0 : validF g = 0 := by simpa using hv
  obtain ⟨hsz, hrest⟩ := valid_ok hv0
  have hsz2 : g.own.length ≤ 4096 := hsz.2
  have hn : g.n = g.own.length := rfl
  have hnl : g.nxt.length = g.own.length := hrest.1
  refine call_fn (of_fn g hs') rfl ?_
  simp only [bdA, ↓wPre, wPost, wFast, Nat.zero_add, Nat.add_zero, Nat.zero_lt_succ, Nat.min_self, Nat.zero_min, Nat.min_zero, Nat.sub_zero, Nat.zero_mul, Int.le_refl, Nat.le_refl, Nat.lt_irrefl, Nat.mul_one, Bool.false_eq_true, Bool.true_eq_false, decide_true, decide_false, decide_eq_true_eq, decide_eq_false_iff_not, Bool.not_true, Bool.not_false, Bool.not_eq_true', Bool.not_eq_false', Bool.and_true, Bool.true_and, Bool.false_and, beq_self_eq_true, ite_true, ite_false, true_and, and_true, false_and, and_false, not_true_eq_false, not_false_eq_true, false_implies, true_implies, implies_true, eq_self, ne_eq, or_true, true_or, or_false, false_or, Bool.or_false, Bool.or_true, Bool.false_or, Bool.true_or, Int.natCast_nonneg, Int.ofNat_lt, Int.ofNat_le, Int.ofNat_inj, Int.ofNat_zero, ↓reduceIte, reduceIte, Nat.reducePow, Nat.reduceLT, Nat.reduceLeDiff, Nat.reduceEqDiff, Nat.reduceAdd, Nat.reduceMul, Nat.reduceSub, Nat.reduceBEq, reduceCtorEq, sl1, wFacts, gmA]
  refine call_fn (ranks_fn g hs' hv0) rfl ?_
  have hRl : (tab (rk g) g.n).length = g.own.length := tab_len _ _
  have hRat : ∀ k, k < g.own.length → (tab (rk g) g.n).getD k 0 = rk g k := fun k hk => tab_at _ _ _ hk
  generalize tab (rk g) g.n = R at *
  have hRe : ints R = .sl g.own.length g.own.length (slF I 0 R) false := by unfold ints sl1; rw [hRl]
  simp only [hRl, ↓wPre, wPost, wFast, Nat.zero_add, Nat.add_zero, Nat.zero_lt_succ, Nat.min_self, Nat.zero_min, Nat.min_zero, Nat.sub_zero, Nat.zero_mul, Int.le_refl, Nat.le_refl, Nat.lt_irrefl, Nat.mul_one, Bool.false_eq_true, Bool.true_eq_false, decide_true, decide_false, decide_eq_true_eq, decide_eq_false_iff_not, Bool.not_true, Bool.not_false, Bool.not_eq_true', Bool.not_eq_false', Bool.and_true, Bool.true_and, Bool.false_and, beq_self_eq_true, ite_true, ite_false, true_and, and_true, false_and, and_false, not_true_eq_false, not_false_eq_true, false_implies, true_implies, implies_true, eq_self, ne_eq, or_true, true_or, or_false, false_or, Bool.or_false, Bool.or_true, Bool.false_or, Bool.true_or, Int.natCast_nonneg, Int.ofNat_lt, Int.ofNat_le, Int.ofNat_inj, Int.ofNat_zero, ↓reduceIte, reduceIte, Nat.reducePow, Nat.reduceLT, Nat.reduceLeDiff, Nat.reduceEqDiff, Nat.reduceAdd, Nat.reduceMul, Nat.reduceSub, Nat.reduceBEq, reduceCtorEq, sl1, wFacts, gmA]
  refine ⟨⟨by omega, by omega⟩, ⟨by omega, by omega⟩, ?_⟩
  refine run_loop (fun k : Nat => ⟨13, [28, 29, 30, 60, 61, 62], [.any, .ref 0 0 0, .any, .any, .any, .any, .ref 1 0 0, ints R, .osl 2 0 1 0 g.own.length, .osl 3 0 1 0 g.own.length, .any, .any, .any], [(28, .osl 2 0 1 0 g.own.length), (29, I g.own.length), (30, I k)],
    [.row 0 4 (ofL (gmL g)), .row 0 6 (ofL (bdL g)), .row 0 g.own.length (slF I 0 (upTo (winF g) g.own.length k)), .row 0 g.own.length (slF I 0 (upTo (ctrF g) g.own.length k))]⟩) (fun k => k ≤ g.own.length) (fun k => g.own.length - k) 0 (by omega)
    ((sub_rowf 2 g.own.length (slF I 0 (upTo (winF g) g.own.length 0)) rfl (Nat.le_refl _) (fun j hj => by rw [slF_at, upTo_zero _ _ _ hj]; rfl)).trans
      ((sub_rowf 3 g.own.length (slF I 0 (upTo (ctrF g) g.own.length 0)) rfl (Nat.le_refl _) (fun j hj => by rw [slF_at, upTo_zero _ _ _ hj]; rfl)).trans (sub_mk rfl ?_ ?_ ?_))) ?_
  · simp [subL, I, hRe]
  · simp [subT, look, I]
  · simp [gmL, bdL, ints, intss, sl1]
  intro k hk next
  have w1 := wj k (by omega)
  refine vc_soundN 1000 ?_
  simp only [w1, gmL, bdL, hRl, ↓wPre, wPost, wFast, Nat.zero_add, Nat.add_zero, Nat.zero_lt_succ, Nat.min_self, Nat.zero_min, Nat.min_zero, Nat.sub_zero, Nat.zero_mul, Int.le_refl, Nat.le_refl, Nat.lt_irrefl, Nat.mul_one, Bool.false_eq_true, Bool.true_eq_false, decide_true, decide_false, decide_eq_true_eq, decide_eq_false_iff_not, Bool.not_true, Bool.not_false, Bool.not_eq_true', Bool.not_eq_false', Bool.and_true, Bool.true_and, Bool.false_and, beq_self_eq_true, ite_true, ite_false, true_and, and_true, false_and, and_false, not_true_eq_false, not_false_eq_true, false_implies, true_implies, implies_true, eq_self, ne_eq, or_true, true_or, or_false, false_or, Bool.or_false, Bool.or_true, Bool.false_or, Bool.true_or, Int.natCast_nonneg, Int.ofNat_lt, Int.ofNat_le, Int.ofNat_inj, Int.ofNat_zero, ↓reduceIte, reduceIte, Nat.reducePow, Nat.reduceLT, Nat.reduceLeDiff, Nat.reduceEqDiff, Nat.reduceAdd, Nat.reduceMul, Nat.reduceSub, Nat.reduceBEq, reduceCtorEq, sl1, wFacts, gmA]
  refine ⟨fun h => ?_, fun h => ?_⟩
  rotate_left
  · have hk' : k = g.own.length := by omega
    subst hk'
    rw [hres, upTo_end, upTo_end]
    exact ret3 rfl (sees_tup ⟨sees_intsE rfl rfl (by rw [tab_len]; rfl) rfl (by rw [tab_len]; exact Nat.le_refl _), sees_intsE rfl rfl (by rw [tab_len]; rfl) rfl (by rw [tab_len]; exact Nat.le_refl _), (settled_I _).sees _, trivial⟩)
  have hkn : k < g.n := h
  have hnx : g.nxt.getD k [] = nx g k := rfl
  have how : g.own.getD k 0 = ow g k := rfl
  have hris := (hrest.2.2.2 k hkn).2.1
  have ho01 := (hrest.2.2.2 k hkn).1
  have hnxl : (nx g k).length ≤ g.own.length := rising_len hris
  have hat := hRat k h
  have hc1 : upd (slF I 0 (upTo (ctrF g) g.own.length k)) k (.int .i64 (-1)) = slF I 0 ((upTo (ctrF g) g.own.length k).set k (-1)) := upd_I _ _ _ (by rw [upTo_len]; exact h)
  have hcdone : ctrF g k = -1 → (upTo (ctrF g) g.own.length k).set k (-1) = upTo (ctrF g) g.own.length (k + 1) := fun e => by rw [← e]; exact upTo_set _ _ _ h
  have hwpos : ¬ 0 ≤ rk g k → upd (slF I 0 (upTo (winF g) g.own.length k)) k (.int .i64 1) = slF I 0 (upTo (winF g) g.own.length (k + 1)) := fun e => by
    have : winF g k = 1 := if_pos (by omega)
    rw [upd_I _ _ _ (by rw [upTo_len]; exact h), ← this, upTo_set _ _ _ h]
  simp only [hat, how, hnx, hc1]
  refine ⟨h, by omega, h, h, fun e1 => ?_, fun e1 => ⟨h, by omega, h, h, fun e2 => ?_, fun e2 => ?_⟩⟩
  · have hc : ctrF g k = -1 := if_neg fun e => by omega
    have hw : winF g k = 0 := if_neg (by omega)
    refine next (k + 1) _ (by omega) (by omega) (sub_mk rfl ?_ ?_ ?_)
    · simp [subL, I, hRe]
    · simp [subT, look, I]
    · simp [gmL, bdL, ints, intss, sl1, hcdone hc, upTo_zero_set _ _ _ h hw]
  · have hc : ctrF g k = -1 := if_neg fun e => by omega
    refine next (k + 1) _ (by omega) (by omega) (sub_mk rfl ?_ ?_ ?_)
    · simp [subL, I, hRe]
    · simp [subT, look, I]
    · simp [gmL, bdL, ints, intss, sl1, hcdone hc, hwpos e1]
  have ho1 : ow g k = 1 := by omega
  by_cases hb : (k : Int) ∈ g.bad
  · have hgm : mapG g.bad k = some (.bool true) := if_pos hb
    have hc : ctrF g k = -1 := if_neg fun e => e.2.2 hb
    simp only [hgm, cst0_bool, ↓wPre, wPost, wFast, Nat.zero_add, Nat.add_zero, Nat.zero_lt_succ, Nat.min_self, Nat.zero_min, Nat.min_zero, Nat.sub_zero, Nat.zero_mul, Int.le_refl, Nat.le_refl, Nat.lt_irrefl, Nat.mul_one, Bool.false_eq_true, Bool.true_eq_false, decide_true, decide_false, decide_eq_true_eq, decide_eq_false_iff_not, Bool.not_true, Bool.not_false, Bool.not_eq_true', Bool.not_eq_false', Bool.and_true, Bool.true_and, Bool.false_and, beq_self_eq_true, ite_true, ite_false, true_and, and_true, false_and, and_false, not_true_eq_false, not_false_eq_true, false_implies, true_implies, implies_true, eq_self, ne_eq, or_true, true_or, or_false, false_or, Bool.or_false, Bool.or_true, Bool.false_or, Bool.true_or, Int.natCast_nonneg, Int.ofNat_lt, Int.ofNat_le, Int.ofNat_inj, Int.ofNat_zero, ↓reduceIte, reduceIte, Nat.reducePow, Nat.reduceLT, Nat.reduceLeDiff, Nat.reduceEqDiff, Nat.reduceAdd, Nat.reduceMul, Nat.reduceSub, Nat.reduceBEq, reduceCtorEq, sl1, wFacts, gmA]
    refine next (k + 1) _ (by omega) (by omega) (sub_mk rfl ?_ ?_ ?_)
    · simp [subL, I, hRe]
    · simp [subT, look, I]
    · simp [gmL, bdL, ints, intss, sl1, hcdone hc, hwpos e1]
  have hgm : mapG g.bad k = none := if_neg hb
  simp only [hgm, cst0_bool, ↓wPre, wPost, wFast, Nat.zero_add, Nat.add_zero, Nat.zero_lt_succ, Nat.min_self, Nat.zero_min, Nat.min_zero, Nat.sub_zero, Nat.zero_mul, Int.le_refl, Nat.le_refl, Nat.lt_irrefl, Nat.mul_one, Bool.false_eq_true, Bool.true_eq_false, decide_true, decide_false, decide_eq_true_eq, decide_eq_false_iff_not, Bool.not_true, Bool.not_false, Bool.not_eq_true', Bool.not_eq_false', Bool.and_true, Bool.true_and, Bool.false_and, beq_self_eq_true, ite_true, ite_false, true_and, and_true, false_and, and_false, not_true_eq_false, not_false_eq_true, false_implies, true_implies, implies_true, eq_self, ne_eq, or_true, true_or, or_false, false_or, Bool.or_false, Bool.or_true, Bool.false_or, Bool.true_or, Int.natCast_nonneg, Int.ofNat_lt, Int.ofNat_le, Int.ofNat_inj, Int.ofNat_zero, ↓reduceIte, reduceIte, Nat.reducePow, Nat.reduceLT, Nat.reduceLeDiff, Nat.reduceEqDiff, Nat.reduceAdd, Nat.reduceMul, Nat.reduceSub, Nat.reduceBEq, reduceCtorEq, sl1, wFacts, gmA]
  refine ⟨by omega, by omega, ?_⟩
  have hcF : ∀ o, ((nx g k).find? fun m => decide (rk g m.toNat < 0)) = o → ctrF g k = o.getD (-1) := fun o ho => by
    unfold ctrF; rw [if_pos ⟨by omega, ho1, hb⟩, ho]
  refine run_loop (fun i : Nat => ⟨13, [28, 29, 30, 60, 61, 62], [.any, .ref 0 0 0, .any, .any, .any, .any, .ref 1 0 0, ints R, .osl 2 0 1 0 g.own.length, .osl 3 0 1 0 g.own.length, I k, .any, .any], [(28, .osl 2 0 1 0 g.own.length), (29, I g.own.length), (30, I k), (60, ints (nx g k)), (61, I (nx g k).length), (62, I i)],
    [.row 0 4 (ofL (gmL g)), .row 0 6 (ofL (bdL g)), .row 0 g.own.length (slF I 0 (upTo (winF g) g.own.length (k + 1))), .row 0 g.own.length (slF I 0 ((upTo (ctrF g) g.own.length k).set k (-1)))]⟩) (fun i => i ≤ (nx g k).length ∧ ∀ j, j < i → 0 ≤ rk g ((nx g k).getD j 0).toNat) (fun i => (nx g k).length - i) 0 ⟨by omega, fun j hj => by omega⟩
    (sub_mk rfl ?_ ?_ ?_) ?_
  · simp [subL, I, hRe]
  · simp [subT, look, I, ints, sl1]
  · simp [gmL, bdL, ints, intss, sl1, hwpos e1]
  rintro i ⟨hi, hino⟩ nexti
  have w2 := wj i (by omega)
  refine vc_soundN 1000 ?_
  simp only [w1, w2, hRl, gmL, bdL, ↓wPre, wPost, wFast, Nat.zero_add, Nat.add_zero, Nat.zero_lt_succ, Nat.min_self, Nat.zero_min, Nat.min_zero, Nat.sub_zero, Nat.zero_mul, Int.le_refl, Nat.le_refl, Nat.lt_irrefl, Nat.mul_one, Bool.false_eq_true, Bool.true_eq_false, decide_true, decide_false, decide_eq_true_eq, decide_eq_false_iff_not, Bool.not_true, Bool.not_false, Bool.not_eq_true', Bool.not_eq_false', Bool.and_true, Bool.true_and, Bool.false_and, beq_self_eq_true, ite_true, ite_false, true_and, and_true, false_and, and_false, not_true_eq_false, not_false_eq_true, false_implies, true_implies, implies_true, eq_self, ne_eq, or_true, true_or, or_false, false_or, Bool.or_false, Bool.or_true, Bool.false_or, Bool.true_or, Int.natCast_nonneg, Int.ofNat_lt, Int.ofNat_le, Int.ofNat_inj, Int.ofNat_zero, ↓reduceIte, reduceIte, Nat.reducePow, Nat.reduceLT, Nat.reduceLeDiff, Nat.reduceEqDiff, Nat.reduceAdd, Nat.reduceMul, Nat.reduceSub, Nat.reduceBEq, reduceCtorEq, sl1, wFacts, gmA]
  refine ⟨fun h2 => ?_, fun h2 => ?_⟩
  · obtain ⟨hm1, hm2⟩ := rising_mem hris (getD_mem (d := 0) h2)
    have hat2 := hRat ((nx g k).getD i 0).toNat (by omega)
    rw [hat2]
    refine ⟨h2, h2, ⟨hm1, by omega⟩, by omega, fun h3 => ⟨by omega, by omega, ?_⟩, fun h3 => ?_⟩
    · have hf := find_hit (p := fun m => decide (rk g m.toNat < 0)) h2 (decide_eq_true h3) (fun j hj => decide_eq_false (by have := hino j hj; omega))
      have hc := hcF _ hf
      simp only [Option.getD_some] at hc
      refine next (k + 1) _ (by omega) (by omega) (sub_mk rfl ?_ ?_ ?_)
      · simp [subL, I, hRe]
      · simp [subT, look, I]
      · have hu : upd (slF I 0 ((upTo (ctrF g) g.own.length k).set k (-1))) k (.int .i64 ((nx g k).getD i 0)) = slF I 0 (upTo (ctrF g) g.own.length (k + 1)) := by
          rw [upd_I _ _ _ (by rw [List.length_set, upTo_len]; exact h), List.set_set, ← hc, upTo_set _ _ _ h]
        rw [hu]
        simp [gmL, bdL, ints, intss, sl1]
    · refine nexti (i + 1) _ ⟨by omega, fun j hj => ?_⟩ (by omega) (sub_mk rfl ?_ ?_ ?_)
      · by_cases e : j = i
        · subst e; omega
        · exact hino j (by omega)
      · simp [subL, I, hRe]
      · simp [subT, look, I, ints, sl1]
      · simp [gmL, bdL, ints, intss, sl1]
  · have hi' : i = (nx g k).length := by omega
    have hf := find_none (p := fun m => decide (rk g m.toNat < 0)) (s := nx g k) (fun j hj => decide_eq_false (by have := hino j (by omega); omega))
    have hc := hcF _ hf
    simp only [Option.getD_none] at hc
    refine next (k + 1) _ (by omega) (by omega) (sub_mk rfl ?_ ?_ ?_)
    · simp [subL, I, hRe]
    · simp [subT, look, I]
    · simp [gmL, bdL, ints, intss, sl1, hcdone hc]
end
end Go.Ab.G
