/- Contracts of functions of this chapter, for every argument that fits, and what they need. -/
import Derived.Test.YtlhlhpgcjjhjkaaG6
set_option linter.unusedSimpArgs false
set_option linter.unusedVariables false
namespace Go.Ab.G
open Go Go.RowKit Go.Proofs
noncomputable section
set_option maxRecDepth 10000
set_option maxHeartbeats 2000000
set_option linter.unusedSimpArgs false
set_option linter.unusedVariables false
open Classical

/-! ### The reference's ranks -/
theorem ranked_fn (g : Gm) (hs : smallG g) (hv : restG g) (hsz : sizeG g) (R : List Int) (k : Nat) (hk : k < g.n) (hRl : R.length = g.own.length) (hRb : ∀ i, -1 ≤ R.getD i 0 ∧ R.getD i 0 ≤ 1000000) :
    Fn Try.prog 43 [gmA g, ints R, I k] (I (rankedV g R k)) := by
  obtain ⟨s1, s2, s3, s4, s5⟩ := hs
  have hsz2 : g.own.length ≤ 4096 := hsz.2
  have hn : g.n = g.own.length := rfl
  have hnl : g.nxt.length = g.own.length := hv.1
  have hnx : g.nxt.getD k [] = nx g k := rfl
  have how : g.own.getD k 0 = ow g k := rfl
  have hris := (hv.2.2.2 k hk).2.1
  have hnxl : (nx g k).length ≤ g.own.length := rising_len hris
  obtain ⟨V, hV⟩ : ∃ V, V = rankedV g R k := ⟨_, rfl⟩
  rw [← hV]
  unfold rankedV at hV
  refine Fn.intro (fn := Try.f43) Try.call43 Try.func43 rfl mixed 12 [] [] [] (by kernel_rfl) (Nat.le_of_ble_eq_true rfl) (by simp [settled_ints, settled_I, settled_fn0, settled_intss, settled_bool, settled_nil, settled_gmA]) (vc_soundN 1000 ?_); simp (config := { maxSteps := 2000000 }) only [AS.start, ↓wPre, wPost, wFast, Nat.zero_add, Nat.add_zero, Nat.zero_lt_succ, Nat.min_self, Nat.zero_min, Nat.min_zero, Nat.sub_zero, Nat.zero_mul, Int.le_refl, Nat.le_refl, Nat.lt_irrefl, Nat.mul_one, Bool.false_eq_true, Bool.true_eq_false, decide_true, decide_false, decide_eq_true_eq, decide_eq_false_iff_not, Bool.not_true, Bool.not_false, Bool.not_eq_true', Bool.not_eq_false', Bool.and_true, Bool.true_and, Bool.false_and, beq_self_eq_true, ite_true, ite_false, true_and, and_true, false_and, and_false, not_true_eq_false, not_false_eq_true, false_implies, true_implies, implies_true, eq_self, ne_eq, or_true, true_or, or_false, false_or, Bool.or_false, Bool.or_true, Bool.false_or, Bool.true_or, Int.natCast_nonneg, Int.ofNat_lt, Int.ofNat_le, Int.ofNat_inj, Int.ofNat_zero, ↓reduceIte, reduceIte, Nat.reducePow, Nat.reduceLT, Nat.reduceLeDiff, Nat.reduceEqDiff, Nat.reduceAdd, Nat.reduceMul, Nat.reduceSub, Nat.reduceBEq, reduceCtorEq, sl1, wFacts, gmA]
  refine call_fn (has_fn g.goal k s3) rfl ?_
  simp only [↓wPre, wPost, wFast, Nat.zero_add, Nat.add_zero, Nat.zero_lt_succ, Nat.min_self, Nat.zero_min, Nat.min_zero, Nat.sub_zero, Nat.zero_mul, Int.le_refl, Nat.le_refl, Nat.lt_irrefl, Nat.mul_one, Bool.false_eq_true, Bool.true_eq_false, decide_true, decide_false, decide_eq_true_eq, decide_eq_false_iff_not, Bool.not_true, Bool.not_false, Bool.not_eq_true', Bool.not_eq_false', Bool.and_true, Bool.true_and, Bool.false_and, beq_self_eq_true, ite_true, ite_false, true_and, and_true, false_and, and_false, not_true_eq_false, not_false_eq_true, false_implies, true_implies, implies_true, eq_self, ne_eq, or_true, true_or, or_false, false_or, Bool.or_false, Bool.or_true, Bool.false_or, Bool.true_or, Int.natCast_nonneg, Int.ofNat_lt, Int.ofNat_le, Int.ofNat_inj, Int.ofNat_zero, ↓reduceIte, reduceIte, Nat.reducePow, Nat.reduceLT, Nat.reduceLeDiff, Nat.reduceEqDiff, Nat.reduceAdd, Nat.reduceMul, Nat.reduceSub, Nat.reduceBEq, reduceCtorEq, sl1, wFacts, gmA]
  refine ⟨fun h1 => ret1E (v := I 0) rfl rfl (settled_I _) (by rw [hV, if_pos h1]), fun h1 => call_fn (has_fn g.bad k s4) rfl ?_⟩
  rw [if_neg h1] at hV
  simp only [hnx, ↓wPre, wPost, wFast, Nat.zero_add, Nat.add_zero, Nat.zero_lt_succ, Nat.min_self, Nat.zero_min, Nat.min_zero, Nat.sub_zero, Nat.zero_mul, Int.le_refl, Nat.le_refl, Nat.lt_irrefl, Nat.mul_one, Bool.false_eq_true, Bool.true_eq_false, decide_true, decide_false, decide_eq_true_eq, decide_eq_false_iff_not, Bool.not_true, Bool.not_false, Bool.not_eq_true', Bool.not_eq_false', Bool.and_true, Bool.true_and, Bool.false_and, beq_self_eq_true, ite_true, ite_false, true_and, and_true, false_and, and_false, not_true_eq_false, not_false_eq_true, false_implies, true_implies, implies_true, eq_self, ne_eq, or_true, true_or, or_false, false_or, Bool.or_false, Bool.or_true, Bool.false_or, Bool.true_or, Int.natCast_nonneg, Int.ofNat_lt, Int.ofNat_le, Int.ofNat_inj, Int.ofNat_zero, ↓reduceIte, reduceIte, Nat.reducePow, Nat.reduceLT, Nat.reduceLeDiff, Nat.reduceEqDiff, Nat.reduceAdd, Nat.reduceMul, Nat.reduceSub, Nat.reduceBEq, reduceCtorEq, sl1, wFacts, gmA]
  refine ⟨fun h2 => ret1E (v := I (-1)) rfl rfl (settled_I _) (by rw [hV, if_pos (.inl h2)]), fun h2 => ⟨by omega, by omega, fun h3 => ret1E (v := I (-1)) rfl rfl (settled_I _) (by rw [hV, if_pos (.inr (by omega))]), fun h3 => ?_⟩⟩
  rw [if_neg (by rintro (h | h); exact h2 h; omega)] at hV
  refine run_loop (fun i : Nat => ⟨12, [], [.any, ints R, I k, .ref 0 0 0, .any, .any, .any, I (fld R ((nx g k).take i)).1, I (fld R ((nx g k).take i)).2.1, .bool (fld R ((nx g k).take i)).2.2, I i, .any], [], [.row 0 4 (ofL (gmL g))]⟩) (fun i => i ≤ (nx g k).length) (fun i => (nx g k).length - i) 0 (by omega)
    (sub_mk rfl (by simp [subL, fld, ints, sl1, I]) (by simp [subT]) (by simp [gmL, ints, intss, sl1])) ?_
  intro i hi next
  have w1 := wj i (by omega)
  refine vc_soundN 1000 ?_
  by_cases h : i < (nx g k).length
  rotate_left
  · have hi' : i = (nx g k).length := by omega
    subst hi'
    have e : (nx g k).take (nx g k).length = nx g k := List.take_length
    rw [e] at *
    have hfs := fld_spec R (fun i => (hRb i).1) (nx g k)
    clear next
    have hb1 : (fld R (nx g k)).1 ≤ 1000000 ∧ -1 ≤ (fld R (nx g k)).1 := by
      rcases hfs.1 with ⟨e, _⟩ | ⟨e, ⟨m, _, e2⟩, _⟩
      · omega
      · rw [← e2]; have := hRb m.toNat; omega
    have hb2 : (fld R (nx g k)).2.1 ≤ 1000000 ∧ -1 ≤ (fld R (nx g k)).2.1 := by
      rcases hfs.2.1.2.1 with e | ⟨m, _, e2⟩
      · omega
      · rw [← e2]; have := hRb m.toNat; omega
    generalize fld R (nx g k) = a at *
    obtain ⟨a1, a2, a3⟩ := a
    simp only at hb1 hb2 hV
    have x1 : IntKind.i64.wrap (a1 + 1) = a1 + 1 := by rw [IntKind.wrap_i64]; omega
    have x2 : IntKind.i64.wrap (a2 + 1) = a2 + 1 := by rw [IntKind.wrap_i64]; omega
    simp only [w1, h, hnx, how, x1, x2, gmL, ↓wPre, wPost, wFast, Nat.zero_add, Nat.add_zero, Nat.zero_lt_succ, Nat.min_self, Nat.zero_min, Nat.min_zero, Nat.sub_zero, Nat.zero_mul, Int.le_refl, Nat.le_refl, Nat.lt_irrefl, Nat.mul_one, Bool.false_eq_true, Bool.true_eq_false, decide_true, decide_false, decide_eq_true_eq, decide_eq_false_iff_not, Bool.not_true, Bool.not_false, Bool.not_eq_true', Bool.not_eq_false', Bool.and_true, Bool.true_and, Bool.false_and, beq_self_eq_true, ite_true, ite_false, true_and, and_true, false_and, and_false, not_true_eq_false, not_false_eq_true, false_implies, true_implies, implies_true, eq_self, ne_eq, or_true, true_or, or_false, false_or, Bool.or_false, Bool.or_true, Bool.false_or, Bool.true_or, Int.natCast_nonneg, Int.ofNat_lt, Int.ofNat_le, Int.ofNat_inj, Int.ofNat_zero, ↓reduceIte, reduceIte, Nat.reducePow, Nat.reduceLT, Nat.reduceLeDiff, Nat.reduceEqDiff, Nat.reduceAdd, Nat.reduceMul, Nat.reduceSub, Nat.reduceBEq, reduceCtorEq, sl1, wFacts, gmA]
    have v1 : ow g k = 0 → 0 ≤ a1 → I (a1 + 1) = I V := fun e1 e2 => by rw [hV, if_pos ⟨e1, e2⟩]
    have v2 : ¬ (ow g k = 0 ∧ 0 ≤ a1) → ow g k = 1 → a3 = true → I (a2 + 1) = I V := fun e1 e2 e3 => by rw [hV, if_neg e1, if_pos ⟨e2, e3⟩]
    have v3 : ¬ (ow g k = 0 ∧ 0 ≤ a1) → ¬ (ow g k = 1 ∧ a3 = true) → I (-1) = I V := fun e1 e2 => by rw [hV, if_neg e1, if_neg e2]
    refine ⟨by omega, by omega, hk, hk, fun e1 => ⟨fun e2 => ret1E rfl rfl (settled_I _) (v1 e1 e2), fun e2 => ⟨hk, hk, fun e3 => by omega, fun e3 => ret1E rfl rfl (settled_I _) (v3 (fun e => e2 e.2) fun e => e3 e.1)⟩⟩, fun e1 => ⟨hk, hk, fun e3 => guardP_intro (fun e4 => ret1E rfl rfl (settled_I _) (v2 (fun e => e1 e.1) e3 e4)) (fun e4 => ret1E rfl rfl (settled_I _) (v3 (fun e => e1 e.1) fun e => by rw [e4] at e; cases e.2)), fun e3 => ret1E rfl rfl (settled_I _) (v3 (fun e => e1 e.1) fun e => e3 e.1)⟩⟩
  obtain ⟨hm1, hm2⟩ := rising_mem hris (getD_mem (d := 0) h)
  have hf := fld_succ R (nx g k) i h
  generalize fld R ((nx g k).take i) = a at *
  obtain ⟨a1, a2, a3⟩ := a
  unfold stp at hf
  have hr := hRb ((nx g k).getD i 0).toNat
  generalize hme : (nx g k).getD i 0 = m at *
  have hfin := next (i + 1)
  rw [hf] at hfin
  clear next
  generalize hre : R.getD m.toNat 0 = r at *
  have y1 : 0 ≤ r → a1 < 0 → (if 0 ≤ r ∧ (a1 < 0 ∨ r < a1) then r else a1) = r := fun e1 e2 => if_pos ⟨e1, .inl e2⟩
  have y2 : 0 ≤ r → r < a1 → (if 0 ≤ r ∧ (a1 < 0 ∨ r < a1) then r else a1) = r := fun e1 e2 => if_pos ⟨e1, .inr e2⟩
  have y3 : 0 ≤ r → ¬ a1 < 0 → ¬ r < a1 → (if 0 ≤ r ∧ (a1 < 0 ∨ r < a1) then r else a1) = a1 := fun e1 e2 e3 => if_neg fun e => e.2.elim e2 e3
  have y4 : ¬ 0 ≤ r → (if 0 ≤ r ∧ (a1 < 0 ∨ r < a1) then r else a1) = a1 := fun e1 => if_neg fun e => e1 e.1
  cases a3
  · simp only [w1, h, hnx, how, hme, hre, gmL, ↓wPre, wPost, wFast, Nat.zero_add, Nat.add_zero, Nat.zero_lt_succ, Nat.min_self, Nat.zero_min, Nat.min_zero, Nat.sub_zero, Nat.zero_mul, Int.le_refl, Nat.le_refl, Nat.lt_irrefl, Nat.mul_one, Bool.false_eq_true, Bool.true_eq_false, decide_true, decide_false, decide_eq_true_eq, decide_eq_false_iff_not, Bool.not_true, Bool.not_false, Bool.not_eq_true', Bool.not_eq_false', Bool.and_true, Bool.true_and, Bool.false_and, beq_self_eq_true, ite_true, ite_false, true_and, and_true, false_and, and_false, not_true_eq_false, not_false_eq_true, false_implies, true_implies, implies_true, eq_self, ne_eq, or_true, true_or, or_false, false_or, Bool.or_false, Bool.or_true, Bool.false_or, Bool.true_or, Int.natCast_nonneg, Int.ofNat_lt, Int.ofNat_le, Int.ofNat_inj, Int.ofNat_zero, ↓reduceIte, reduceIte, Nat.reducePow, Nat.reduceLT, Nat.reduceLeDiff, Nat.reduceEqDiff, Nat.reduceAdd, Nat.reduceMul, Nat.reduceSub, Nat.reduceBEq, reduceCtorEq, sl1, wFacts, gmA]
    refine ⟨by omega, by omega, by omega, by omega, ⟨by omega, by omega⟩, by omega, fun e1 => ⟨fun e2 => ?_, fun e2 => ⟨fun e3 => ?_, fun e3 => ?_⟩⟩, fun e1 => ?_⟩
    · rw [y1 e1 e2] at hfin
      refine hfin _ (by omega) (by omega) (sub_mk rfl ?_ ?_ ?_)
      · simp [subL, ints, sl1, I]
      · simp [subT]
      · simp [gmL, ints, intss, sl1]
    · rw [y2 e1 e3] at hfin
      refine hfin _ (by omega) (by omega) (sub_mk rfl ?_ ?_ ?_)
      · simp [subL, ints, sl1, I]
      · simp [subT]
      · simp [gmL, ints, intss, sl1]
    · rw [y3 e1 e2 e3] at hfin
      refine hfin _ (by omega) (by omega) (sub_mk rfl ?_ ?_ ?_)
      · simp [subL, ints, sl1, I]
      · simp [subT]
      · simp [gmL, ints, intss, sl1]
    · rw [y4 e1] at hfin
      refine hfin _ (by omega) (by omega) (sub_mk rfl ?_ ?_ ?_)
      · simp [subL, ints, sl1, I]
      · simp [subT]
      · simp [gmL, ints, intss, sl1]
  · simp only [w1, h, hnx, how, hme, hre, gmL, ↓wPre, wPost, wFast, Nat.zero_add, Nat.add_zero, Nat.zero_lt_succ, Nat.min_self, Nat.zero_min, Nat.min_zero, Nat.sub_zero, Nat.zero_mul, Int.le_refl, Nat.le_refl, Nat.lt_irrefl, Nat.mul_one, Bool.false_eq_true, Bool.true_eq_false, decide_true, decide_false, decide_eq_true_eq, decide_eq_false_iff_not, Bool.not_true, Bool.not_false, Bool.not_eq_true', Bool.not_eq_false', Bool.and_true, Bool.true_and, Bool.false_and, beq_self_eq_true, ite_true, ite_false, true_and, and_true, false_and, and_false, not_true_eq_false, not_false_eq_true, false_implies, true_implies, implies_true, eq_self, ne_eq, or_true, true_or, or_false, false_or, Bool.or_false, Bool.or_true, Bool.false_or, Bool.true_or, Int.natCast_nonneg, Int.ofNat_lt, Int.ofNat_le, Int.ofNat_inj, Int.ofNat_zero, ↓reduceIte, reduceIte, Nat.reducePow, Nat.reduceLT, Nat.reduceLeDiff, Nat.reduceEqDiff, Nat.reduceAdd, Nat.reduceMul, Nat.reduceSub, Nat.reduceBEq, reduceCtorEq, sl1, wFacts, gmA]
    refine ⟨by omega, by omega, by omega, by omega, ⟨by omega, by omega⟩, by omega, fun e1 => ⟨fun e2 => ?_, fun e2 => ⟨fun e3 => ?_, fun e3 => ?_⟩⟩, fun e1 => ?_⟩
    · rw [y1 e1 e2] at hfin
      refine hfin _ (by omega) (by omega) (sub_mk rfl ?_ ?_ ?_)
      · simp [subL, ints, sl1, I]
      · simp [subT]
      · simp [gmL, ints, intss, sl1]
    · rw [y2 e1 e3] at hfin
      refine hfin _ (by omega) (by omega) (sub_mk rfl ?_ ?_ ?_)
      · simp [subL, ints, sl1, I]
      · simp [subT]
      · simp [gmL, ints, intss, sl1]
    · rw [y3 e1 e2 e3] at hfin
      refine hfin _ (by omega) (by omega) (sub_mk rfl ?_ ?_ ?_)
      · simp [subL, ints, sl1, I]
      · simp [subT]
      · simp [gmL, ints, intss, sl1]
    · rw [y4 e1] at hfin
      refine hfin _ (by omega) (by omega) (sub_mk rfl ?_ ?_ ?_)
      · simp [subL, ints, sl1, I]
      · simp [subT]
      · simp [gmL, ints, intss, sl1]

def rndL (g : Gm) (r k : Nat) : List Int := tab (F g (r + 1)) k
def chg (g : Gm) (r k : Nat) : Bool := decide (∃ q, q < k ∧ F g (r + 1) q ≠ F g r q)
def chgd (g : Gm) : Nat → Bool
  | 0 => true
  | r + 1 => chg g r g.own.length
theorem bel1 (g : Gm) : ∀ o ∈ [AO.row 0 4 (ofL (gmL g))], belO 1 o := by
  intro o ho
  simp only [List.mem_cons, List.not_mem_nil, or_false] at ho
  subst ho
  intro j _
  unfold gmL ofL
  match j with
  | 0 => exact bel_of_settled (settled_ints _)
  | 1 => exact bel_of_settled (settled_intss _)
  | 2 => exact bel_of_settled (settled_ints _)
  | 3 => exact bel_of_settled (settled_ints _)
  | j + 4 => exact bel_any _
theorem bel_r (l : List Int) (b : Bool) (r : Int) : ∀ a ∈ [AV.any, .ref 0 0 0, .any, ints l, .any, .bool b, I r, .any, .any, .any], Bel 1 a := by
  intro a ha
  simp only [List.mem_cons, List.not_mem_nil, or_false] at ha
  rcases ha with rfl | rfl | rfl | rfl | rfl | rfl | rfl | rfl | rfl | rfl
  all_goals first | exact bel_any _ | exact bel_ref (by omega) | exact bel_I _ _ | exact bel_of_settled (settled_ints _) | exact bel_of_settled (settled_bool _)
theorem rranks_fn (g : Gm) (hs : smallG g) (hv : validF g = 0) : Fn Try.prog 33 [gmA g] (ints (tab (rk g) g.n)) := by
  have hs' := hs
  obtain ⟨s1, s2, s3, s4, s5⟩ := hs
  obtain ⟨hsz, hrest⟩ := valid_ok hv
  have hsz2 : g.own.length ≤ 4096 := hsz.2
  have hn : g.n = g.own.length := rfl
  obtain ⟨res, hres⟩ : ∃ r : AV, r = ints (tab (rk g) g.n) := ⟨_, rfl⟩
  rw [← hres]
  refine Fn.intro (fn := Try.f33) Try.call33 Try.func33 rfl mixed 10 [] [] [] (by kernel_rfl) (Nat.le_of_ble_eq_true rfl) (by simp [settled_ints, settled_I, settled_fn0, settled_intss, settled_bool, settled_nil, settled_gmA]) (vc_soundN 1000 ?_); simp (config := { maxSteps := 2000000 }) only [AS.start, ↓wPre, wPost, wFast, Nat.zero_add, Nat.add_zero, Nat.zero_lt_succ, Nat.min_self, Nat.zero_min, Nat.min_zero, Nat.sub_zero, Nat.zero_mul, Int.le_refl, Nat.le_refl, Nat.lt_irrefl, Nat.mul_one, Bool.false_eq_true, Bool.true_eq_false, decide_true, decide_false, decide_eq_true_eq, decide_eq_false_iff_not, Bool.not_true, Bool.not_false, Bool.not_eq_true', Bool.not_eq_false', Bool.and_true, Bool.true_and, Bool.false_and, beq_self_eq_true, ite_true, ite_false, true_and, and_true, false_and, and_false, not_true_eq_false, not_false_eq_true, false_implies, true_implies, implies_true, eq_self, ne_eq, or_true, true_or, or_false, false_or, Bool.or_false, Bool.or_true, Bool.false_or, Bool.true_or, Int.natCast_nonneg, Int.ofNat_lt, Int.ofNat_le, Int.ofNat_inj, Int.ofNat_zero, ↓reduceIte, reduceIte, Nat.reducePow, Nat.reduceLT, Nat.reduceLeDiff, Nat.reduceEqDiff, Nat.reduceAdd, Nat.reduceMul, Nat.reduceSub, Nat.reduceBEq, reduceCtorEq, sl1, wFacts, gmA]
  refine run_loop (fun k : Nat => ⟨10, [], [.any, .ref 0 0 0, .any, .osl 1 k 1 0 k, I k, .any, .any, .any, .any, .any], [], [.row 0 4 (ofL (gmL g)), .row k k (slF I 0 (tab (F g 0) k))]⟩) (fun k => k ≤ g.own.length) (fun k => g.own.length - k) 0 (by omega)
    ((sub_adopt 3 1 (slF I 0 []) rfl).trans (sub_mk rfl ?_ ?_ ?_)) ?_
  · simp [AS.put, subL, I]
  · simp [AS.put, subT]
  · simp [AS.put, gmL, ints, intss, sl1, tab]
  intro k hk next
  have w1 := wj k (by omega)
  have hap := appF_I (tab (F g 0) k) (-1)
  rw [tab_len, ← show tab (F g 0) (k + 1) = tab (F g 0) k ++ [-1] from tab_succ _ _] at hap
  refine vc_soundN 1000 ?_
  simp only [w1, hap, gmL, ↓wPre, wPost, wFast, Nat.zero_add, Nat.add_zero, Nat.zero_lt_succ, Nat.min_self, Nat.zero_min, Nat.min_zero, Nat.sub_zero, Nat.zero_mul, Int.le_refl, Nat.le_refl, Nat.lt_irrefl, Nat.mul_one, Bool.false_eq_true, Bool.true_eq_false, decide_true, decide_false, decide_eq_true_eq, decide_eq_false_iff_not, Bool.not_true, Bool.not_false, Bool.not_eq_true', Bool.not_eq_false', Bool.and_true, Bool.true_and, Bool.false_and, beq_self_eq_true, ite_true, ite_false, true_and, and_true, false_and, and_false, not_true_eq_false, not_false_eq_true, false_implies, true_implies, implies_true, eq_self, ne_eq, or_true, true_or, or_false, false_or, Bool.or_false, Bool.or_true, Bool.false_or, Bool.true_or, Int.natCast_nonneg, Int.ofNat_lt, Int.ofNat_le, Int.ofNat_inj, Int.ofNat_zero, ↓reduceIte, reduceIte, Nat.reducePow, Nat.reduceLT, Nat.reduceLeDiff, Nat.reduceEqDiff, Nat.reduceAdd, Nat.reduceMul, Nat.reduceSub, Nat.reduceBEq, reduceCtorEq, sl1, wFacts, gmA]
  refine ⟨fun h => ⟨⟨by omega, by omega⟩, next (k + 1) _ (by omega) (by omega) (sub_mk rfl ?_ ?_ ?_)⟩, fun h => ?_⟩
  · simp [subL, I]
  · simp [subT]
  · simp [gmL, ints, intss, sl1]
  have hk' : k = g.own.length := by omega
  subst hk'
  clear next
  refine run_loop (fun r : Nat => ⟨10, [], [.any, .ref 0 0 0, .any, ints (tab (F g r) g.own.length), .any, .bool (chgd g r), I r, .any, .any, .any], [], [.row 0 4 (ofL (gmL g))]⟩) (fun r => r ≤ g.own.length + 1) (fun r => g.own.length + 1 - r) 0 (by omega) ?_ ?_
  · refine (sub_con 1 rfl).trans ((sub_weakIn 3 (ints (tab (F g 0) g.own.length)) (show 3 < 10 by decide) ?_).trans (sub_cut (m := 1) (Nat.zero_le _) rfl ?_ ?_ ?_ ?_ ?_ (bel1 g)))
    · have := weakIn_ints (H := [.row 0 4 (ofL (gmL g)), .con g.own.length (tab (F g 0) g.own.length).length (slF I 0 (tab (F g 0) g.own.length))]) (id := 1) (ver := g.own.length) (l := tab (F g 0) g.own.length) rfl
      rw [tab_len] at this
      exact this
    · simp [subL, chgd, I]
    · simp [subT]
    · simp [gmL, ints, intss, sl1]
    · exact bel_r _ _ _
    · intro p hp; cases hp
  intro r hr next
  have w1 := wj r (by omega)
  have hRl : (tab (F g r) g.own.length).length = g.own.length := tab_len _ _
  refine vc_soundN 1000 ?_
  simp only [w1, gmL, ↓wPre, wPost, wFast, Nat.zero_add, Nat.add_zero, Nat.zero_lt_succ, Nat.min_self, Nat.zero_min, Nat.min_zero, Nat.sub_zero, Nat.zero_mul, Int.le_refl, Nat.le_refl, Nat.lt_irrefl, Nat.mul_one, Bool.false_eq_true, Bool.true_eq_false, decide_true, decide_false, decide_eq_true_eq, decide_eq_false_iff_not, Bool.not_true, Bool.not_false, Bool.not_eq_true', Bool.not_eq_false', Bool.and_true, Bool.true_and, Bool.false_and, beq_self_eq_true, ite_true, ite_false, true_and, and_true, false_and, and_false, not_true_eq_false, not_false_eq_true, false_implies, true_implies, implies_true, eq_self, ne_eq, or_true, true_or, or_false, false_or, Bool.or_false, Bool.or_true, Bool.false_or, Bool.true_or, Int.natCast_nonneg, Int.ofNat_lt, Int.ofNat_le, Int.ofNat_inj, Int.ofNat_zero, ↓reduceIte, reduceIte, Nat.reducePow, Nat.reduceLT, Nat.reduceLeDiff, Nat.reduceEqDiff, Nat.reduceAdd, Nat.reduceMul, Nat.reduceSub, Nat.reduceBEq, reduceCtorEq, sl1, wFacts, gmA]
  refine guardP_intro (fun hc => ?_) (fun hc => ret1E rfl rfl (by rw [hres]; exact settled_ints _) ?_)
  rotate_left
  · rw [hres]
    obtain ⟨p, rfl⟩ : ∃ p, r = p + 1 := by
      cases r with
      | zero => simp [chgd] at hc
      | succ p => exact ⟨p, rfl⟩
    have hst : ∀ q, q < g.n → F g (p + 1) q = F g p q := fun q hq => Classical.byContradiction fun e => by
      have : chg g p g.own.length = true := decide_eq_true ⟨q, hq, e⟩
      simp only [chgd] at hc
      rw [this] at hc; cases hc
    have e : tab (rk g) g.n = tab (F g (p + 1)) g.own.length := tab_congr fun q hq => by
      rw [hst q hq]; exact F_stable hrest hst g.n (by omega) q hq
    rw [e]; rfl
  have hrn : r ≤ g.own.length := by
    cases r with
    | zero => omega
    | succ p =>
      simp only [chgd, chg, decide_eq_true_eq] at hc
      have h1 := F_changed hrest p hc
      have h2 := cntF_le g (p + 1) g.n
      omega
  refine run_loop (fun k : Nat => ⟨10, [], [.any, .ref 0 0 0, .any, ints (tab (F g r) g.own.length), .any, .bool (chg g r k), I r, .osl 1 k 1 0 k, I k, .any], [], [.row 0 4 (ofL (gmL g)), .row k k (slF I 0 (tab (F g (r + 1)) k))]⟩) (fun k => k ≤ g.own.length) (fun k => g.own.length - k) 0 (by omega)
    ((sub_adopt 7 1 (slF I 0 []) rfl).trans (sub_mk rfl ?_ ?_ ?_)) ?_
  · simp [AS.put, subL, I, ints, sl1, chg]
  · simp [AS.put, subT]
  · simp [AS.put, gmL, ints, intss, sl1, tab]
  intro k hk nextk
  have w2 := wj k (by omega)
  have hap := fun x => appF_I (tab (F g (r + 1)) k) x
  simp only [tab_len] at hap
  refine vc_soundN 1000 ?_
  by_cases h : k < g.own.length
  rotate_left
  · simp only [w1, w2, hRl, h, gmL, ↓wPre, wPost, wFast, Nat.zero_add, Nat.add_zero, Nat.zero_lt_succ, Nat.min_self, Nat.zero_min, Nat.min_zero, Nat.sub_zero, Nat.zero_mul, Int.le_refl, Nat.le_refl, Nat.lt_irrefl, Nat.mul_one, Bool.false_eq_true, Bool.true_eq_false, decide_true, decide_false, decide_eq_true_eq, decide_eq_false_iff_not, Bool.not_true, Bool.not_false, Bool.not_eq_true', Bool.not_eq_false', Bool.and_true, Bool.true_and, Bool.false_and, beq_self_eq_true, ite_true, ite_false, true_and, and_true, false_and, and_false, not_true_eq_false, not_false_eq_true, false_implies, true_implies, implies_true, eq_self, ne_eq, or_true, true_or, or_false, false_or, Bool.or_false, Bool.or_true, Bool.false_or, Bool.true_or, Int.natCast_nonneg, Int.ofNat_lt, Int.ofNat_le, Int.ofNat_inj, Int.ofNat_zero, ↓reduceIte, reduceIte, Nat.reducePow, Nat.reduceLT, Nat.reduceLeDiff, Nat.reduceEqDiff, Nat.reduceAdd, Nat.reduceMul, Nat.reduceSub, Nat.reduceBEq, reduceCtorEq, sl1, wFacts, gmA]
    have hk' : k = g.own.length := by omega
    subst hk'
    refine next (r + 1) _ (by omega) (by omega) ((sub_con 1 rfl).trans ((sub_weakIn 3 (ints (tab (F g (r + 1)) g.own.length)) (show 3 < 10 by decide) ?_).trans (sub_cut (m := 1) (Nat.zero_le _) rfl ?_ ?_ ?_ ?_ ?_ (bel1 g))))
    · have := weakIn_ints (H := [.row 0 4 (ofL (gmL g)), .con g.own.length (tab (F g (r + 1)) g.own.length).length (slF I 0 (tab (F g (r + 1)) g.own.length))]) (id := 1) (ver := g.own.length) (l := tab (F g (r + 1)) g.own.length) rfl
      rw [tab_len] at this
      exact this
    · simp [subL, chgd, I]
    · simp [subT]
    · simp [gmL, ints, intss, sl1]
    · exact bel_r _ _ _
    · intro p hp; cases hp
  have hat : (tab (F g r) g.own.length).getD k 0 = F g r k := tab_at _ _ _ h
  have hap2 : ∀ x, x = F g (r + 1) k → appF k (slF I 0 (tab (F g (r + 1)) k)) 1 (ofL [.int .i64 x]) = slF I 0 (tab (F g (r + 1)) (k + 1)) := fun x hx => by rw [hap, tab_succ, hx]
  have hcs : ∀ b, (b = true ↔ F g (r + 1) k ≠ F g r k) → (chg g r k || b) = chg g r (k + 1) := fun b hb => by
    rw [Bool.eq_iff_iff]
    simp only [Bool.or_eq_true, chg, decide_eq_true_eq, hb]
    constructor
    · rintro (⟨q, h1, h2⟩ | h2)
      · exact ⟨q, by omega, h2⟩
      · exact ⟨k, by omega, h2⟩
    · rintro ⟨q, h1, h2⟩
      by_cases e : q = k
      · subst e; exact .inr h2
      · exact .inl ⟨q, by omega, h2⟩
  have hrange := F_range g r k
  have hrange' := F_range g (r + 1) k
  simp only [w1, w2, hRl, h, hat, gmL, ↓wPre, wPost, wFast, Nat.zero_add, Nat.add_zero, Nat.zero_lt_succ, Nat.min_self, Nat.zero_min, Nat.min_zero, Nat.sub_zero, Nat.zero_mul, Int.le_refl, Nat.le_refl, Nat.lt_irrefl, Nat.mul_one, Bool.false_eq_true, Bool.true_eq_false, decide_true, decide_false, decide_eq_true_eq, decide_eq_false_iff_not, Bool.not_true, Bool.not_false, Bool.not_eq_true', Bool.not_eq_false', Bool.and_true, Bool.true_and, Bool.false_and, beq_self_eq_true, ite_true, ite_false, true_and, and_true, false_and, and_false, not_true_eq_false, not_false_eq_true, false_implies, true_implies, implies_true, eq_self, ne_eq, or_true, true_or, or_false, false_or, Bool.or_false, Bool.or_true, Bool.false_or, Bool.true_or, Int.natCast_nonneg, Int.ofNat_lt, Int.ofNat_le, Int.ofNat_inj, Int.ofNat_zero, ↓reduceIte, reduceIte, Nat.reducePow, Nat.reduceLT, Nat.reduceLeDiff, Nat.reduceEqDiff, Nat.reduceAdd, Nat.reduceMul, Nat.reduceSub, Nat.reduceBEq, reduceCtorEq, sl1, wFacts, gmA]
  refine ⟨fun h1 => ?_, fun h1 => ?_⟩
  · have hrk := ranked_fn g hs' hrest hsz (tab (F g r) g.n) k h (tab_len _ _) (fun i => by
      by_cases hi : i < g.n
      · rw [tab_at _ _ _ hi]; have := F_range g r i; omega
      · rw [List.getD_eq_getElem?_getD, List.getElem?_eq_none (by rw [tab_len]; omega)]; simp)
    rw [ranked_F hrest h h1] at hrk
    refine call_fn hrk (by simp [AV.loose, ints, sl1, gmA, intss, hn, tab_len, I]) ?_
    have hb := hcs (decide (0 ≤ F g (r + 1) k)) (by rw [decide_eq_true_eq]; omega)
    cases hcc : chg g r k with
    | true =>
      rw [hcc, Bool.true_or] at hb
      simp only [w1, w2, hRl, h, hat, hap2 _ rfl, gmL, ↓wPre, wPost, wFast, Nat.zero_add, Nat.add_zero, Nat.zero_lt_succ, Nat.min_self, Nat.zero_min, Nat.min_zero, Nat.sub_zero, Nat.zero_mul, Int.le_refl, Nat.le_refl, Nat.lt_irrefl, Nat.mul_one, Bool.false_eq_true, Bool.true_eq_false, decide_true, decide_false, decide_eq_true_eq, decide_eq_false_iff_not, Bool.not_true, Bool.not_false, Bool.not_eq_true', Bool.not_eq_false', Bool.and_true, Bool.true_and, Bool.false_and, beq_self_eq_true, ite_true, ite_false, true_and, and_true, false_and, and_false, not_true_eq_false, not_false_eq_true, false_implies, true_implies, implies_true, eq_self, ne_eq, or_true, true_or, or_false, false_or, Bool.or_false, Bool.or_true, Bool.false_or, Bool.true_or, Int.natCast_nonneg, Int.ofNat_lt, Int.ofNat_le, Int.ofNat_inj, Int.ofNat_zero, ↓reduceIte, reduceIte, Nat.reducePow, Nat.reduceLT, Nat.reduceLeDiff, Nat.reduceEqDiff, Nat.reduceAdd, Nat.reduceMul, Nat.reduceSub, Nat.reduceBEq, reduceCtorEq, sl1, wFacts, gmA]
      refine ⟨⟨by omega, by omega⟩, nextk (k + 1) _ (by omega) (by omega) (sub_mk rfl ?_ ?_ ?_)⟩
      · simp [subL, ints, sl1, I, tab_len, ← hb]
      · simp [subT]
      · simp [gmL, ints, intss, sl1]
    | false =>
      rw [hcc, Bool.false_or] at hb
      simp only [w1, w2, hRl, h, hat, hap2 _ rfl, gmL, ↓wPre, wPost, wFast, Nat.zero_add, Nat.add_zero, Nat.zero_lt_succ, Nat.min_self, Nat.zero_min, Nat.min_zero, Nat.sub_zero, Nat.zero_mul, Int.le_refl, Nat.le_refl, Nat.lt_irrefl, Nat.mul_one, Bool.false_eq_true, Bool.true_eq_false, decide_true, decide_false, decide_eq_true_eq, decide_eq_false_iff_not, Bool.not_true, Bool.not_false, Bool.not_eq_true', Bool.not_eq_false', Bool.and_true, Bool.true_and, Bool.false_and, beq_self_eq_true, ite_true, ite_false, true_and, and_true, false_and, and_false, not_true_eq_false, not_false_eq_true, false_implies, true_implies, implies_true, eq_self, ne_eq, or_true, true_or, or_false, false_or, Bool.or_false, Bool.or_true, Bool.false_or, Bool.true_or, Int.natCast_nonneg, Int.ofNat_lt, Int.ofNat_le, Int.ofNat_inj, Int.ofNat_zero, ↓reduceIte, reduceIte, Nat.reducePow, Nat.reduceLT, Nat.reduceLeDiff, Nat.reduceEqDiff, Nat.reduceAdd, Nat.reduceMul, Nat.reduceSub, Nat.reduceBEq, reduceCtorEq, sl1, wFacts, gmA]
      refine ⟨⟨by omega, by omega⟩, nextk (k + 1) _ (by omega) (by omega) (sub_mk rfl ?_ ?_ ?_)⟩
      · simp [subL, ints, sl1, I, tab_len, ← hb]
      · simp [subT]
      · simp [gmL, ints, intss, sl1]
  · have hkeep : F g (r + 1) k = F g r k := F_keep g (by omega) _ (by omega)
    rw [hap2 _ hkeep.symm]
    refine ⟨⟨by omega, by omega⟩, nextk (k + 1) _ (by omega) (by omega) (sub_mk rfl ?_ ?_ ?_)⟩
    · have := hcs false (by simp [hkeep])
      rw [Bool.or_false] at this
      simp [subL, ints, sl1, I, tab_len, this]
    · simp [subT]
    · simp [gmL, ints, intss, sl1]
end
end Go.Ab.G
