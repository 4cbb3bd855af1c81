/- Contracts of functions of this chapter, for every argument that fits, and what they need. -/
import Derived.Test.YtlhlhpgcjjhjkaaG18
set_option linter.unusedSimpArgs false
set_option linter.unusedVariables false
namespace Go.Ab.G
open Go Go.RowKit Go.Proofs
noncomputable section
set_option maxRecDepth 10000
set_option maxHeartbeats 2000000
set_option linter.unusedSimpArgs false
set_option linter.unusedVariables false
set_option pp.maxSteps 100000
open Classical

theorem rplay_fn (g : Gm) (hs : smallG g) (fr : Int) (C faults : List Int) (hC : C.length < 9223372036854775808) (hF : faults.length < 9223372036854775808) (hfa : all64 faults) : Fn Try.prog 26 [gmA g, I fr, ints C, ints faults] (playG g fr C faults) := by
  have hs' := hs
  obtain ⟨s1, s2, s3, s4, s5⟩ := hs
  obtain ⟨V, hV⟩ : ∃ V, V = playG g fr C faults := ⟨_, rfl⟩
  rw [← hV]
  unfold playG at hV
  refine Fn.intro (fn := Try.f26) Try.call26 Try.func26 rfl mixed 17 [] [] [] (by kernel_rfl) (Nat.le_of_ble_eq_true rfl) (by simp [settled_ints, settled_I, settled_fn0, settled_intss, settled_bool, settled_nil, settled_gmA]) (vc_soundN 1000 ?_); simp (config := { maxSteps := 2000000 }) only [AS.start, ↓wPre, wPost, wFast, Nat.zero_add, Nat.add_zero, Nat.zero_lt_succ, Nat.min_self, Nat.zero_min, Nat.min_zero, Nat.sub_zero, Nat.zero_mul, Int.le_refl, Nat.le_refl, Nat.lt_irrefl, Nat.mul_one, Bool.false_eq_true, Bool.true_eq_false, decide_true, decide_false, decide_eq_true_eq, decide_eq_false_iff_not, Bool.not_true, Bool.not_false, Bool.not_eq_true', Bool.not_eq_false', Bool.and_true, Bool.true_and, Bool.false_and, beq_self_eq_true, ite_true, ite_false, true_and, and_true, false_and, and_false, not_true_eq_false, not_false_eq_true, false_implies, true_implies, implies_true, eq_self, ne_eq, or_true, true_or, or_false, false_or, Bool.or_false, Bool.or_true, Bool.false_or, Bool.true_or, Int.natCast_nonneg, Int.ofNat_lt, Int.ofNat_le, Int.ofNat_inj, Int.ofNat_zero, ↓reduceIte, reduceIte, Nat.reducePow, Nat.reduceLT, Nat.reduceLeDiff, Nat.reduceEqDiff, Nat.reduceAdd, Nat.reduceMul, Nat.reduceSub, Nat.reduceBEq, reduceCtorEq, sl1, wFacts, gmA]
  refine call_fn (rvalid_fn g hs') rfl ?_
  simp only [gmL, ↓wPre, wPost, wFast, Nat.zero_add, Nat.add_zero, Nat.zero_lt_succ, Nat.min_self, Nat.zero_min, Nat.min_zero, Nat.sub_zero, Nat.zero_mul, Int.le_refl, Nat.le_refl, Nat.lt_irrefl, Nat.mul_one, Bool.false_eq_true, Bool.true_eq_false, decide_true, decide_false, decide_eq_true_eq, decide_eq_false_iff_not, Bool.not_true, Bool.not_false, Bool.not_eq_true', Bool.not_eq_false', Bool.and_true, Bool.true_and, Bool.false_and, beq_self_eq_true, ite_true, ite_false, true_and, and_true, false_and, and_false, not_true_eq_false, not_false_eq_true, false_implies, true_implies, implies_true, eq_self, ne_eq, or_true, true_or, or_false, false_or, Bool.or_false, Bool.or_true, Bool.false_or, Bool.true_or, Int.natCast_nonneg, Int.ofNat_lt, Int.ofNat_le, Int.ofNat_inj, Int.ofNat_zero, ↓reduceIte, reduceIte, Nat.reducePow, Nat.reduceLT, Nat.reduceLeDiff, Nat.reduceEqDiff, Nat.reduceAdd, Nat.reduceMul, Nat.reduceSub, Nat.reduceBEq, reduceCtorEq, sl1, wFacts, gmA]
  refine ⟨fun hv => ?_, fun hv => ?_⟩
  · rw [hV, if_pos hv]
    exact ret2 rfl (sees_tup ⟨sees_empty, (settled_I _).sees _, trivial⟩)
  rw [if_neg (by simpa using hv)] at hV
  have hv0 : validF g = 0 := by simpa using hv
  obtain ⟨hsz, hrest⟩ := valid_ok hv0
  have hsz2 : g.own.length ≤ 4096 := hsz.2
  have hn : g.n = g.own.length := rfl
  have hnl : g.nxt.length = g.own.length := hrest.1
  have bad : (fr < 0 ∨ g.n ≤ fr ∨ C.length ≠ g.n) → ∀ {s : AS}, s.get 8 = .sl 0 0 (fun _ => .any) true → s.get 9 = .int .i64 1 → RetOk (envP Try.prog Try.f26 [] [] V) s := fun h s h8 h9 => by
    rw [hV, if_pos h]
    refine ret2 rfl ?_
    rw [h8, h9]
    exact sees_tup ⟨sees_empty, (settled_I _).sees _, trivial⟩
  refine ⟨fun q1 => bad (by omega) rfl rfl, fun q1 => ⟨fun q2 => bad (by omega) rfl rfl, fun q2 => ⟨fun q3 => bad (by omega) rfl rfl, fun q3 => ?_⟩⟩⟩
  rw [if_neg (by omega)] at hV
  have h0 : 0 ≤ fr := by omega
  have hfr : fr < g.n := by omega
  have hsplit := play_split g hrest C faults fr h0 hfr 4096
  let x12 : Nat → AV := fun j => match j with
    | 0 => .sl 1 1 (ofL [.int .i64 fr]) true
    | j + 1 => .osl 1 j 1 0 (j + 2)
  let rest : Nat → List AO := fun j => match j with
    | 0 => []
    | j + 1 => [.row j (j + 2) (slF I 0 (wayL g C faults fr (j + 1)))]
  refine run_loop (fun j : Nat => ⟨17, [], [.any, .any, ints C, ints faults, .ref 0 0 0, .any, .any, .any, .any, .any, .any, x12 j, I (pos g C faults fr j : Nat), I j, .any, .any, .any], [],
    [.row 0 4 (ofL (gmL g))] ++ rest j⟩) (fun j => j ≤ 4096 ∧ pos g C faults fr j < g.n ∧ ∀ i, i < j → goOk g C faults fr i) (fun j => 4096 - j) 0 ⟨by omega, by show fr.toNat < g.n; omega, fun i hi => by omega⟩
    (sub_mk rfl ?_ ?_ ?_) ?_
  · simp [x12, subL, ints, sl1, I, pos]; omega
  · simp [subT]
  · simp [rest, gmL, ints, intss, sl1]
  rintro j ⟨hj, hpos, hgo⟩ next
  have w1 := wj j (by omega)
  have stop : ∀ (hq : j = 4096 ∨ ¬ goOk g C faults fr j), fr :: playF g C faults 4096 fr.toNat 0 = wayL g C faults fr j := fun hq => by
    rw [hsplit j hj hgo]
    have : playF g C faults (4096 - j) (pos g C faults fr j) j = [] := by
      rcases hq with rfl | hq
      · rfl
      · exact play_stop _ _ _ _ _ _ hq
    rw [this, List.append_nil]
  obtain ⟨k, hk⟩ : ∃ k, pos g C faults fr j = k := ⟨_, rfl⟩
  rw [hk] at hpos
  have hnx : g.nxt.getD k [] = nx g k := rfl
  have how : g.own.getD k 0 = ow g k := rfl
  have hkn : k < g.own.length := hpos
  have hris := (hrest.2.2.2 k hpos).2.1
  have ho01 := (hrest.2.2.2 k hpos).1
  have hnxl : (nx g k).length ≤ g.own.length := rising_len hris
  have hgk : goOk g C faults fr j ↔ (goesOn g k ∧ moveF g C faults k j ∈ nx g k) := by unfold goOk; rw [hk]
  have hret : (j = 4096 ∨ ¬ goOk g C faults fr j) → ∀ {s : AS}, s.get 8 = x12 j → s.h = [.row 0 4 (ofL (gmL g))] ++ rest j → s.get 9 = .int .i64 0 → RetOk (envP Try.prog Try.f26 [] [] V) s := fun hq s h8 hh h9 => by
    rw [hV, stop hq]
    refine ret2 rfl ?_
    rw [h8, h9, hh]
    refine sees_tup ⟨?_, (settled_I _).sees _, trivial⟩
    cases j with
    | zero =>
      rw [wayL_zero _ _ _ _ h0]
      exact sees_of_weak (settled_ints _) (weak_lit [fr] _)
    | succ j => exact sees_intsE rfl rfl (by rw [wayL_len]) rfl (by rw [wayL_len]; exact Nat.le_refl _)
  have hL : (nx g k).length ≤ 4096 := by omega
  have hx64 : -9223372036854775808 ≤ faults.getD j 0 ∧ faults.getD j 0 ≤ 9223372036854775807 := by
    by_cases e : j < faults.length
    · exact ⟨(hfa _ (getD_mem e)).1, Int.le_of_lt_add_one (hfa _ (getD_mem e)).2⟩
    · rw [List.getD_eq_getElem?_getD, List.getElem?_eq_none (by omega)]; simp
  have hwr : IntKind.i64.wrap ((faults.getD j 0).tmod (nx g k).length + (nx g k).length) = (faults.getD j 0).tmod (nx g k).length + (nx g k).length := wrap_mod hL hx64
  have hrg : 0 < (nx g k).length → 0 ≤ ((faults.getD j 0).tmod (nx g k).length + (nx g k).length).tmod (nx g k).length ∧ ((faults.getD j 0).tmod (nx g k).length + (nx g k).length).tmod (nx g k).length < (nx g k).length := fun h => tmod_range h _
  have hmv : ∀ M, (ow g k = 1 → M = pickF (nx g k) j faults) → (ow g k ≠ 1 → M = C.getD k 0) → moveF g C faults k j = M := fun M h1 h2 => by
    unfold moveF
    by_cases e : ow g k = 1
    · rw [if_pos e, h1 e]
    · rw [if_neg e, h2 e]
  have hgw : ((j : Nat) : Int) < 4096 ↔ j < 4096 := by omega
  refine vc_soundN 1000 ?_
  simp (config := { maxSteps := 2000000 }) only [hk, hnx, how, gmL, w1, hwr, ↓wPre, wPost, wFast, Nat.zero_add, Nat.add_zero, Nat.zero_lt_succ, Nat.min_self, Nat.zero_min, Nat.min_zero, Nat.sub_zero, Nat.zero_mul, Int.le_refl, Nat.le_refl, Nat.lt_irrefl, Nat.mul_one, Bool.false_eq_true, Bool.true_eq_false, decide_true, decide_false, decide_eq_true_eq, decide_eq_false_iff_not, Bool.not_true, Bool.not_false, Bool.not_eq_true', Bool.not_eq_false', Bool.and_true, Bool.true_and, Bool.false_and, beq_self_eq_true, ite_true, ite_false, true_and, and_true, false_and, and_false, not_true_eq_false, not_false_eq_true, false_implies, true_implies, implies_true, eq_self, ne_eq, or_true, true_or, or_false, false_or, Bool.or_false, Bool.or_true, Bool.false_or, Bool.true_or, Int.natCast_nonneg, Int.ofNat_lt, Int.ofNat_le, Int.ofNat_inj, Int.ofNat_zero, ↓reduceIte, reduceIte, Nat.reducePow, Nat.reduceLT, Nat.reduceLeDiff, Nat.reduceEqDiff, Nat.reduceAdd, Nat.reduceMul, Nat.reduceSub, Nat.reduceBEq, reduceCtorEq, sl1, wFacts, gmA]
  have hle : ∀ q : Nat, C.length = g.own.length := fun _ => by omega
  refine ⟨fun q0 => ⟨by omega, by omega, call_fn (has_fn g.goal k (by omega)) rfl ?_⟩, fun q0 => hret (.inl (by omega)) (by rfl) (by rfl) (by rfl)⟩
  simp (config := { maxSteps := 2000000 }) only [hk, hnx, how, gmL, w1, hwr, ↓wPre, wPost, wFast, Nat.zero_add, Nat.add_zero, Nat.zero_lt_succ, Nat.min_self, Nat.zero_min, Nat.min_zero, Nat.sub_zero, Nat.zero_mul, Int.le_refl, Nat.le_refl, Nat.lt_irrefl, Nat.mul_one, Bool.false_eq_true, Bool.true_eq_false, decide_true, decide_false, decide_eq_true_eq, decide_eq_false_iff_not, Bool.not_true, Bool.not_false, Bool.not_eq_true', Bool.not_eq_false', Bool.and_true, Bool.true_and, Bool.false_and, beq_self_eq_true, ite_true, ite_false, true_and, and_true, false_and, and_false, not_true_eq_false, not_false_eq_true, false_implies, true_implies, implies_true, eq_self, ne_eq, or_true, true_or, or_false, false_or, Bool.or_false, Bool.or_true, Bool.false_or, Bool.true_or, Int.natCast_nonneg, Int.ofNat_lt, Int.ofNat_le, Int.ofNat_inj, Int.ofNat_zero, ↓reduceIte, reduceIte, Nat.reducePow, Nat.reduceLT, Nat.reduceLeDiff, Nat.reduceEqDiff, Nat.reduceAdd, Nat.reduceMul, Nat.reduceSub, Nat.reduceBEq, reduceCtorEq, sl1, wFacts, gmA]
  refine ⟨fun hg => hret (.inr fun h => (hgk.1 h).1.1 hg) (by rfl) (by rfl) (by rfl), fun hg => ?_⟩
  refine call_fn (has_fn g.bad k (by omega)) rfl ?_
  simp (config := { maxSteps := 2000000 }) only [hk, hnx, how, gmL, w1, hwr, ↓wPre, wPost, wFast, Nat.zero_add, Nat.add_zero, Nat.zero_lt_succ, Nat.min_self, Nat.zero_min, Nat.min_zero, Nat.sub_zero, Nat.zero_mul, Int.le_refl, Nat.le_refl, Nat.lt_irrefl, Nat.mul_one, Bool.false_eq_true, Bool.true_eq_false, decide_true, decide_false, decide_eq_true_eq, decide_eq_false_iff_not, Bool.not_true, Bool.not_false, Bool.not_eq_true', Bool.not_eq_false', Bool.and_true, Bool.true_and, Bool.false_and, beq_self_eq_true, ite_true, ite_false, true_and, and_true, false_and, and_false, not_true_eq_false, not_false_eq_true, false_implies, true_implies, implies_true, eq_self, ne_eq, or_true, true_or, or_false, false_or, Bool.or_false, Bool.or_true, Bool.false_or, Bool.true_or, Int.natCast_nonneg, Int.ofNat_lt, Int.ofNat_le, Int.ofNat_inj, Int.ofNat_zero, ↓reduceIte, reduceIte, Nat.reducePow, Nat.reduceLT, Nat.reduceLeDiff, Nat.reduceEqDiff, Nat.reduceAdd, Nat.reduceMul, Nat.reduceSub, Nat.reduceBEq, reduceCtorEq, sl1, wFacts, gmA]
  refine ⟨fun hb => hret (.inr fun h => (hgk.1 h).1.2.1 hb) (by rfl) (by rfl) (by rfl), fun hb => ⟨fun hz => hret (.inr fun h => (hgk.1 h).1.2.2 (List.length_eq_zero_iff.1 (by omega))) (by rfl) (by rfl) (by rfl), fun hz => ?_⟩⟩
  have hstop : ∀ M, moveF g C faults k j = M → M ∉ nx g k → ¬ goOk g C faults fr j := fun M h1 h2 h => h2 (by rw [← h1]; exact (hgk.1 h).2)
  have adv : ∀ M, moveF g C faults k j = M → M ∈ nx g k → j ≠ 4096 → (j + 1 ≤ 4096 ∧ pos g C faults fr (j + 1) < g.n ∧ ∀ i, i < j + 1 → goOk g C faults fr i) ∧ ((pos g C faults fr (j + 1) : Nat) : Int) = M := fun M h1 h2 h3 => by
    have hne : nx g k ≠ [] := fun e => by rw [e] at h2; cases h2
    have hok : goOk g C faults fr j := hgk.2 ⟨⟨hg, hb, hne⟩, by rw [h1]; exact h2⟩
    have hin := nx_in hrest hpos h2
    have hp : pos g C faults fr (j + 1) = M.toNat := by show (moveF g C faults (pos g C faults fr j) j).toNat = _; rw [hk, h1]
    refine ⟨⟨by omega, by rw [hp]; omega, fun i hi => ?_⟩, by rw [hp]; omega⟩
    by_cases e : i = j
    · rw [e]; exact hok
    · exact hgo i (by omega)
  refine ⟨by omega, by omega, by omega, by omega, fun o1 => ⟨fun m1 => ⟨by omega, by omega, by omega, by omega, by omega, by omega, hrg (by omega), by have := hrg (by omega); omega, by omega, by omega, ?_⟩, fun m1 => ⟨by omega, by omega, by omega, by omega, by omega, by omega, ?_⟩⟩, fun o1 => ⟨by omega, by omega, ?_⟩⟩
  · have hM : moveF g C faults k j = (nx g k).getD (((faults.getD (j) 0).tmod (nx g k).length + (nx g k).length).tmod (nx g k).length).toNat 0 := hmv _ (fun _ => by unfold pickF; rw [if_pos (by omega)]) (fun h => absurd o1 h)
    refine call_fn (has_fn (nx g k) ((nx g k).getD (((faults.getD (j) 0).tmod (nx g k).length + (nx g k).length).tmod (nx g k).length).toNat 0) (by omega)) rfl ?_
    cases j with
    | zero =>
      simp (config := { maxSteps := 2000000 }) only [x12, rest, w1, ↓wPre, wPost, wFast, Nat.zero_add, Nat.add_zero, Nat.zero_lt_succ, Nat.min_self, Nat.zero_min, Nat.min_zero, Nat.sub_zero, Nat.zero_mul, Int.le_refl, Nat.le_refl, Nat.lt_irrefl, Nat.mul_one, Bool.false_eq_true, Bool.true_eq_false, decide_true, decide_false, decide_eq_true_eq, decide_eq_false_iff_not, Bool.not_true, Bool.not_false, Bool.not_eq_true', Bool.not_eq_false', Bool.and_true, Bool.true_and, Bool.false_and, beq_self_eq_true, ite_true, ite_false, true_and, and_true, false_and, and_false, not_true_eq_false, not_false_eq_true, false_implies, true_implies, implies_true, eq_self, ne_eq, or_true, true_or, or_false, false_or, Bool.or_false, Bool.or_true, Bool.false_or, Bool.true_or, Int.natCast_nonneg, Int.ofNat_lt, Int.ofNat_le, Int.ofNat_inj, Int.ofNat_zero, ↓reduceIte, reduceIte, Nat.reducePow, Nat.reduceLT, Nat.reduceLeDiff, Nat.reduceEqDiff, Nat.reduceAdd, Nat.reduceMul, Nat.reduceSub, Nat.reduceBEq, reduceCtorEq, sl1, wFacts, gmA]
      refine ⟨fun c => hret (.inr (hstop _ hM c)) (by rfl) (by rfl) (by rfl), fun c => ?_⟩
      have ha := adv _ hM c (by omega)
      refine next 1 _ ha.1 (by omega) ((sub_rowf 1 2 (slF I 0 (wayL g C faults fr 1)) rfl (Nat.le_refl _) (fun i hi => ?_)).trans (sub_mk rfl ?_ ?_ ?_))
      · rw [wayL_succ, wayL_zero _ _ _ _ h0, ha.2]
        obtain rfl | rfl : i = 0 ∨ i = 1 := by omega
        · rfl
        · rfl
      · simp [x12, subL, ints, sl1, I, ha.2]
        first | done | rfl | (rw [IntKind.wrap_i64]; rfl)
      · simp [subT]
      · simp [rest, gmL, ints, intss, sl1]
    | succ j =>
      simp (config := { maxSteps := 2000000 }) only [x12, rest, w1, ↓wPre, wPost, wFast, Nat.zero_add, Nat.add_zero, Nat.zero_lt_succ, Nat.min_self, Nat.zero_min, Nat.min_zero, Nat.sub_zero, Nat.zero_mul, Int.le_refl, Nat.le_refl, Nat.lt_irrefl, Nat.mul_one, Bool.false_eq_true, Bool.true_eq_false, decide_true, decide_false, decide_eq_true_eq, decide_eq_false_iff_not, Bool.not_true, Bool.not_false, Bool.not_eq_true', Bool.not_eq_false', Bool.and_true, Bool.true_and, Bool.false_and, beq_self_eq_true, ite_true, ite_false, true_and, and_true, false_and, and_false, not_true_eq_false, not_false_eq_true, false_implies, true_implies, implies_true, eq_self, ne_eq, or_true, true_or, or_false, false_or, Bool.or_false, Bool.or_true, Bool.false_or, Bool.true_or, Int.natCast_nonneg, Int.ofNat_lt, Int.ofNat_le, Int.ofNat_inj, Int.ofNat_zero, ↓reduceIte, reduceIte, Nat.reducePow, Nat.reduceLT, Nat.reduceLeDiff, Nat.reduceEqDiff, Nat.reduceAdd, Nat.reduceMul, Nat.reduceSub, Nat.reduceBEq, reduceCtorEq, sl1, wFacts, gmA]
      refine ⟨fun c => hret (.inr (hstop _ hM c)) (by rfl) (by rfl) (by rfl), fun c => ⟨⟨by omega, by omega⟩, ?_⟩⟩
      have ha := adv _ hM c (by omega)
      refine next (j + 2) _ ha.1 (by omega) ((sub_rowf 1 (j + 3) (slF I 0 (wayL g C faults fr (j + 2))) rfl (Nat.le_refl _) (fun i hi => ?_)).trans (sub_mk rfl ?_ ?_ ?_))
      · have e := appF_I (wayL g C faults fr (j + 1)) ((nx g k).getD (((faults.getD (j + 1) 0).tmod (nx g k).length + (nx g k).length).tmod (nx g k).length).toNat 0)
        rw [wayL_len] at e
        rw [show wayL g C faults fr (j + 2) = wayL g C faults fr (j + 1) ++ [_] from wayL_succ _ _ _ _ _, ha.2, ← e]
      · simp [x12, subL, ints, sl1, I, ha.2]
        omega
      · simp [subT]
      · simp [rest, gmL, ints, intss, sl1]
  · have hM : moveF g C faults k j = (nx g k).getD 0 0 := hmv _ (fun _ => by unfold pickF; rw [if_neg (by omega)]; rfl) (fun h => absurd o1 h)
    refine call_fn (has_fn (nx g k) ((nx g k).getD 0 0) (by omega)) rfl ?_
    cases j with
    | zero =>
      simp (config := { maxSteps := 2000000 }) only [x12, rest, w1, ↓wPre, wPost, wFast, Nat.zero_add, Nat.add_zero, Nat.zero_lt_succ, Nat.min_self, Nat.zero_min, Nat.min_zero, Nat.sub_zero, Nat.zero_mul, Int.le_refl, Nat.le_refl, Nat.lt_irrefl, Nat.mul_one, Bool.false_eq_true, Bool.true_eq_false, decide_true, decide_false, decide_eq_true_eq, decide_eq_false_iff_not, Bool.not_true, Bool.not_false, Bool.not_eq_true', Bool.not_eq_false', Bool.and_true, Bool.true_and, Bool.false_and, beq_self_eq_true, ite_true, ite_false, true_and, and_true, false_and, and_false, not_true_eq_false, not_false_eq_true, false_implies, true_implies, implies_true, eq_self, ne_eq, or_true, true_or, or_false, false_or, Bool.or_false, Bool.or_true, Bool.false_or, Bool.true_or, Int.natCast_nonneg, Int.ofNat_lt, Int.ofNat_le, Int.ofNat_inj, Int.ofNat_zero, ↓reduceIte, reduceIte, Nat.reducePow, Nat.reduceLT, Nat.reduceLeDiff, Nat.reduceEqDiff, Nat.reduceAdd, Nat.reduceMul, Nat.reduceSub, Nat.reduceBEq, reduceCtorEq, sl1, wFacts, gmA]
      refine ⟨fun c => hret (.inr (hstop _ hM c)) (by rfl) (by rfl) (by rfl), fun c => ?_⟩
      have ha := adv _ hM c (by omega)
      refine next 1 _ ha.1 (by omega) ((sub_rowf 1 2 (slF I 0 (wayL g C faults fr 1)) rfl (Nat.le_refl _) (fun i hi => ?_)).trans (sub_mk rfl ?_ ?_ ?_))
      · rw [wayL_succ, wayL_zero _ _ _ _ h0, ha.2]
        obtain rfl | rfl : i = 0 ∨ i = 1 := by omega
        · rfl
        · rfl
      · simp [x12, subL, ints, sl1, I, ha.2]
        first | done | rfl | (rw [IntKind.wrap_i64]; rfl)
      · simp [subT]
      · simp [rest, gmL, ints, intss, sl1]
    | succ j =>
      simp (config := { maxSteps := 2000000 }) only [x12, rest, w1, ↓wPre, wPost, wFast, Nat.zero_add, Nat.add_zero, Nat.zero_lt_succ, Nat.min_self, Nat.zero_min, Nat.min_zero, Nat.sub_zero, Nat.zero_mul, Int.le_refl, Nat.le_refl, Nat.lt_irrefl, Nat.mul_one, Bool.false_eq_true, Bool.true_eq_false, decide_true, decide_false, decide_eq_true_eq, decide_eq_false_iff_not, Bool.not_true, Bool.not_false, Bool.not_eq_true', Bool.not_eq_false', Bool.and_true, Bool.true_and, Bool.false_and, beq_self_eq_true, ite_true, ite_false, true_and, and_true, false_and, and_false, not_true_eq_false, not_false_eq_true, false_implies, true_implies, implies_true, eq_self, ne_eq, or_true, true_or, or_false, false_or, Bool.or_false, Bool.or_true, Bool.false_or, Bool.true_or, Int.natCast_nonneg, Int.ofNat_lt, Int.ofNat_le, Int.ofNat_inj, Int.ofNat_zero, ↓reduceIte, reduceIte, Nat.reducePow, Nat.reduceLT, Nat.reduceLeDiff, Nat.reduceEqDiff, Nat.reduceAdd, Nat.reduceMul, Nat.reduceSub, Nat.reduceBEq, reduceCtorEq, sl1, wFacts, gmA]
      refine ⟨fun c => hret (.inr (hstop _ hM c)) (by rfl) (by rfl) (by rfl), fun c => ⟨⟨by omega, by omega⟩, ?_⟩⟩
      have ha := adv _ hM c (by omega)
      refine next (j + 2) _ ha.1 (by omega) ((sub_rowf 1 (j + 3) (slF I 0 (wayL g C faults fr (j + 2))) rfl (Nat.le_refl _) (fun i hi => ?_)).trans (sub_mk rfl ?_ ?_ ?_))
      · have e := appF_I (wayL g C faults fr (j + 1)) ((nx g k).getD 0 0)
        rw [wayL_len] at e
        rw [show wayL g C faults fr (j + 2) = wayL g C faults fr (j + 1) ++ [_] from wayL_succ _ _ _ _ _, ha.2, ← e]
      · simp [x12, subL, ints, sl1, I, ha.2]
        omega
      · simp [subT]
      · simp [rest, gmL, ints, intss, sl1]
  · have hM : moveF g C faults k j = C.getD k 0 := hmv _ (fun h => absurd h o1) (fun _ => rfl)
    refine call_fn (has_fn (nx g k) (C.getD k 0) (by omega)) rfl ?_
    cases j with
    | zero =>
      simp (config := { maxSteps := 2000000 }) only [x12, rest, w1, ↓wPre, wPost, wFast, Nat.zero_add, Nat.add_zero, Nat.zero_lt_succ, Nat.min_self, Nat.zero_min, Nat.min_zero, Nat.sub_zero, Nat.zero_mul, Int.le_refl, Nat.le_refl, Nat.lt_irrefl, Nat.mul_one, Bool.false_eq_true, Bool.true_eq_false, decide_true, decide_false, decide_eq_true_eq, decide_eq_false_iff_not, Bool.not_true, Bool.not_false, Bool.not_eq_true', Bool.not_eq_false', Bool.and_true, Bool.true_and, Bool.false_and, beq_self_eq_true, ite_true, ite_false, true_and, and_true, false_and, and_false, not_true_eq_false, not_false_eq_true, false_implies, true_implies, implies_true, eq_self, ne_eq, or_true, true_or, or_false, false_or, Bool.or_false, Bool.or_true, Bool.false_or, Bool.true_or, Int.natCast_nonneg, Int.ofNat_lt, Int.ofNat_le, Int.ofNat_inj, Int.ofNat_zero, ↓reduceIte, reduceIte, Nat.reducePow, Nat.reduceLT, Nat.reduceLeDiff, Nat.reduceEqDiff, Nat.reduceAdd, Nat.reduceMul, Nat.reduceSub, Nat.reduceBEq, reduceCtorEq, sl1, wFacts, gmA]
      refine ⟨fun c => hret (.inr (hstop _ hM c)) (by rfl) (by rfl) (by rfl), fun c => ?_⟩
      have ha := adv _ hM c (by omega)
      refine next 1 _ ha.1 (by omega) ((sub_rowf 1 2 (slF I 0 (wayL g C faults fr 1)) rfl (Nat.le_refl _) (fun i hi => ?_)).trans (sub_mk rfl ?_ ?_ ?_))
      · rw [wayL_succ, wayL_zero _ _ _ _ h0, ha.2]
        obtain rfl | rfl : i = 0 ∨ i = 1 := by omega
        · rfl
        · rfl
      · simp [x12, subL, ints, sl1, I, ha.2]
        first | done | rfl | (rw [IntKind.wrap_i64]; rfl)
      · simp [subT]
      · simp [rest, gmL, ints, intss, sl1]
    | succ j =>
      simp (config := { maxSteps := 2000000 }) only [x12, rest, w1, ↓wPre, wPost, wFast, Nat.zero_add, Nat.add_zero, Nat.zero_lt_succ, Nat.min_self, Nat.zero_min, Nat.min_zero, Nat.sub_zero, Nat.zero_mul, Int.le_refl, Nat.le_refl, Nat.lt_irrefl, Nat.mul_one, Bool.false_eq_true, Bool.true_eq_false, decide_true, decide_false, decide_eq_true_eq, decide_eq_false_iff_not, Bool.not_true, Bool.not_false, Bool.not_eq_true', Bool.not_eq_false', Bool.and_true, Bool.true_and, Bool.false_and, beq_self_eq_true, ite_true, ite_false, true_and, and_true, false_and, and_false, not_true_eq_false, not_false_eq_true, false_implies, true_implies, implies_true, eq_self, ne_eq, or_true, true_or, or_false, false_or, Bool.or_false, Bool.or_true, Bool.false_or, Bool.true_or, Int.natCast_nonneg, Int.ofNat_lt, Int.ofNat_le, Int.ofNat_inj, Int.ofNat_zero, ↓reduceIte, reduceIte, Nat.reducePow, Nat.reduceLT, Nat.reduceLeDiff, Nat.reduceEqDiff, Nat.reduceAdd, Nat.reduceMul, Nat.reduceSub, Nat.reduceBEq, reduceCtorEq, sl1, wFacts, gmA]
      refine ⟨fun c => hret (.inr (hstop _ hM c)) (by rfl) (by rfl) (by rfl), fun c => ⟨⟨by omega, by omega⟩, ?_⟩⟩
      have ha := adv _ hM c (by omega)
      refine next (j + 2) _ ha.1 (by omega) ((sub_rowf 1 (j + 3) (slF I 0 (wayL g C faults fr (j + 2))) rfl (Nat.le_refl _) (fun i hi => ?_)).trans (sub_mk rfl ?_ ?_ ?_))
      · have e := appF_I (wayL g C faults fr (j + 1)) (C.getD k 0)
        rw [wayL_len] at e
        rw [show wayL g C faults fr (j + 2) = wayL g C faults fr (j + 1) ++ [_] from wayL_succ _ _ _ _ _, ha.2, ← e]
      · simp [x12, subL, ints, sl1, I, ha.2]
        omega
      · simp [subT]
      · simp [rest, gmL, ints, intss, sl1]
end
end Go.Ab.G
