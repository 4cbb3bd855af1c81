/- Contracts of functions of these chapters, for every argument that fits, and what they need. -/
import Derived.Test.YtefjhgcndhepeaaC5
set_option linter.unusedSimpArgs false
set_option linter.unusedVariables false
namespace Go.Ab.N
open Go Go.RowKit Go.Proofs
noncomputable section
set_option maxRecDepth 10000
set_option maxHeartbeats 2000000
set_option linter.unusedSimpArgs false
set_option linter.unusedVariables false
open Classical

theorem rofZ_fn (n : Int) (hn : in64 n) : Fn Try.prog 23 [I n] (zA n) := by
  unfold in64 at hn
  obtain ⟨R, hR⟩ : ∃ R, R = zA n := ⟨_, rfl⟩
  have sR : Settled R := hR ▸ settled_zA _
  rw [← hR]
  obtain ⟨neg, hneg⟩ : ∃ neg, neg = decide (n < 0) := ⟨_, rfl⟩
  have en : n = sgn neg n.natAbs := by rw [hneg, sgn_abs]
  refine Fn.intro (fn := Try.f23) Try.call23 Try.func23 rfl mixed 6 [] [] [] (by kernel_rfl) (Nat.le_of_ble_eq_true rfl) (by simp [settled_ints, settled_I, settled_fn0, settled_intss, settled_bool, settled_nil, settled_zA, settled_qA, settled_zR, settled_ofA, settled_int]) (vc_soundN 1000 ?_); simp (config := { maxSteps := 2000000 }) only [AS.start, ↓wPre, wPost, wFast, wCore, beq_self_eq_true, ite_true, ite_false, false_implies, true_implies, implies_true, eq_self, ne_eq, ↓reduceIte, reduceIte, Nat.reducePow, Nat.reduceLT, Nat.reduceLeDiff, Nat.reduceEqDiff, Nat.reduceAdd, Nat.reduceMul, Nat.reduceSub, Nat.reduceBEq, Nat.reduceDiv, Nat.reduceMod, reduceCtorEq, sl1, wFacts, zA, qA, qC, nb_tf, nb_ft, nb_tt, nb_ff]
  rw [← hneg]
  refine run_loop (fun p : List Int × Nat => ⟨6, [], [I (sgn neg p.2), .any, .ref 0 0 0, .osl 1 p.1.length 1 0 p.1.length, .bool neg, .any], [], [.row 0 2 (ofL [.bool false, .sl 0 0 (fun _ => .any) true]), .row p.1.length p.1.length (slF I 0 p.1)]⟩)
    (fun p => dig p.1 ∧ val p.1 + pw p.1.length * p.2 = n.natAbs ∧ p.2 ≤ n.natAbs ∧ p.1.length ≤ 3) (fun p => p.2) ([], n.natAbs) ⟨dig_nil, by simp [val, pw], Nat.le_refl _, by simp⟩ ?_ ?_
  · refine (sub_adopt 3 1 (slF I 0 []) rfl).trans (sub_mk rfl ?_ ?_ ?_)
    · simp [AS.put, subL, I, ← en]
    · simp [AS.put, subT]
    · simp [AS.put]
  rintro ⟨l, M⟩ ⟨h1, h2, h3, h4⟩ next
  simp only at h1 h2 h3 h4
  by_cases hM : M = 0
  · subst hM
    have f1 : (sgn neg 0 = 0) = True := eq_true (by unfold sgn; split <;> simp)
    have c := normal_z neg l h1 (by omega)
    rw [show val l = (n.natAbs : Int) by simpa using h2, ← en, ← hR] at c
    refine Run.sub ?_ (sub_freeze 1 3 rfl rfl (by simp))
    refine vc_soundN 1000 ?_
    simp only [f1, ↓wPre, wPost, wFast, wCore, beq_self_eq_true, ite_true, ite_false, false_implies, true_implies, implies_true, eq_self, ne_eq, ↓reduceIte, reduceIte, Nat.reducePow, Nat.reduceLT, Nat.reduceLeDiff, Nat.reduceEqDiff, Nat.reduceAdd, Nat.reduceMul, Nat.reduceSub, Nat.reduceBEq, Nat.reduceDiv, Nat.reduceMod, reduceCtorEq, sl1, wFacts, zA, qA, qC, nb_tf, nb_ft, nb_tt, nb_ff]
    refine call_fn c rfl ?_
    simp only [hR, ↓wPre, wPost, wFast, wCore, beq_self_eq_true, ite_true, ite_false, false_implies, true_implies, implies_true, eq_self, ne_eq, ↓reduceIte, reduceIte, Nat.reducePow, Nat.reduceLT, Nat.reduceLeDiff, Nat.reduceEqDiff, Nat.reduceAdd, Nat.reduceMul, Nat.reduceSub, Nat.reduceBEq, Nat.reduceDiv, Nat.reduceMod, reduceCtorEq, sl1, wFacts, zA, qA, qC, nb_tf, nb_ft, nb_tt, nb_ff]
    exact retA rfl ldk42 rfl rfl rfl sR (hR.trans rfl)
  · have hl : l.length ≤ 2 := by
      apply Classical.byContradiction
      intro hh
      have q1 := pw_mono (show 3 ≤ l.length by omega)
      have q2 := val_nonneg h1
      have q3 : pw l.length * 1 ≤ pw l.length * M := Int.mul_le_mul_of_nonneg_left (by omega) (by have := pw_pos l.length; omega)
      have q4 : (n.natAbs : Int) ≤ 9223372036854775808 := by omega
      have q5 : pw 3 = 1000000000000000000000000000 := by simp [pw]
      omega
    obtain ⟨m, hm⟩ : ∃ m, m = sgn neg (M : Int) := ⟨_, rfl⟩
    have hma : (neg = true ∧ m = -(M : Int)) ∨ (neg = false ∧ m = (M : Int)) := by rw [hm]; unfold sgn; cases neg <;> simp
    rw [← hm]
    have f1 : (m = 0) = False := eq_false (by omega)
    have hap := appF_I l ((M % 1000000000 : Nat) : Int)
    have e3 : IntKind.i64.wrap (m.tdiv 1000000000) = sgn neg ((M / 1000000000 : Nat) : Int) := by
      unfold sgn
      rcases hma with ⟨e, e2⟩ | ⟨e, e2⟩
      · rw [e, e2, if_pos rfl, Int.neg_tdiv, Int.tdiv_eq_ediv_of_nonneg (by omega), IntKind.wrap_i64]; omega
      · rw [e, e2, if_neg (by simp), Int.tdiv_eq_ediv_of_nonneg (by omega), IntKind.wrap_i64]; omega
    have inv : dig (l ++ [((M % 1000000000 : Nat) : Int)]) ∧ val (l ++ [((M % 1000000000 : Nat) : Int)]) + pw (l ++ [((M % 1000000000 : Nat) : Int)]).length * ((M / 1000000000 : Nat) : Int) = n.natAbs ∧ M / 1000000000 ≤ n.natAbs ∧ (l ++ [((M % 1000000000 : Nat) : Int)]).length ≤ 3 := by
      refine ⟨dig_app.2 ⟨h1, dig_cons.2 ⟨⟨by omega, by omega⟩, dig_nil⟩⟩, ?_, by omega, by simp; omega⟩
      rw [val_snoc]
      simp only [List.length_append, List.length_cons, List.length_nil, Nat.zero_add, pw]
      have e : (M : Int) = ((M % 1000000000 : Nat) : Int) + 1000000000 * ((M / 1000000000 : Nat) : Int) := by omega
      have h2' := h2
      rw [e] at h2'
      rw [Int.mul_add] at h2'
      have e2 : 1000000000 * pw l.length * ((M / 1000000000 : Nat) : Int) = pw l.length * (1000000000 * ((M / 1000000000 : Nat) : Int)) := by
        rw [Int.mul_comm 1000000000 (pw l.length), Int.mul_assoc]
      rw [e2]; omega
    rcases hma with ⟨e1, e2⟩ | ⟨e1, e2⟩
    · have g1 : IntKind.i64.wrap (0 - m.tmod 1000000000) = ((M % 1000000000 : Nat) : Int) := by
        rw [e2, Int.neg_tmod, Int.tmod_eq_emod_of_nonneg (by omega), IntKind.wrap_i64]; omega
      by_cases hz : m.tmod 1000000000 < 0
      · have g2 : (m.tmod 1000000000 < 0) = True := eq_true hz
        refine vc_soundN 1000 ?_
        simp only [f1, g1, g2, e3, hap, Int.reduceEq, ↓wPre, wPost, wFast, wCore, beq_self_eq_true, ite_true, ite_false, false_implies, true_implies, implies_true, eq_self, ne_eq, ↓reduceIte, reduceIte, Nat.reducePow, Nat.reduceLT, Nat.reduceLeDiff, Nat.reduceEqDiff, Nat.reduceAdd, Nat.reduceMul, Nat.reduceSub, Nat.reduceBEq, Nat.reduceDiv, Nat.reduceMod, reduceCtorEq, sl1, wFacts, zA, qA, qC, nb_tf, nb_ft, nb_tt, nb_ff]
        exact ⟨⟨by omega, by omega⟩, next (l ++ [((M % 1000000000 : Nat) : Int)], M / 1000000000) _ inv (by simp only; omega) (sub_mk rfl (by simp [subL, I]) (by simp [subT]) (by simp))⟩
      · have g2 : (((M % 1000000000 : Nat) : Int) < 0) = False := eq_false (by omega)
        have g3 : m.tmod 1000000000 = ((M % 1000000000 : Nat) : Int) := by
          rw [e2, Int.neg_tmod, Int.tmod_eq_emod_of_nonneg (by omega)] at hz ⊢; omega
        refine vc_soundN 1000 ?_
        simp only [f1, g2, g3, e3, hap, Int.reduceEq, ↓wPre, wPost, wFast, wCore, beq_self_eq_true, ite_true, ite_false, false_implies, true_implies, implies_true, eq_self, ne_eq, ↓reduceIte, reduceIte, Nat.reducePow, Nat.reduceLT, Nat.reduceLeDiff, Nat.reduceEqDiff, Nat.reduceAdd, Nat.reduceMul, Nat.reduceSub, Nat.reduceBEq, Nat.reduceDiv, Nat.reduceMod, reduceCtorEq, sl1, wFacts, zA, qA, qC, nb_tf, nb_ft, nb_tt, nb_ff]
        exact ⟨⟨by omega, by omega⟩, next (l ++ [((M % 1000000000 : Nat) : Int)], M / 1000000000) _ inv (by simp only; omega) (sub_mk rfl (by simp [subL, I]) (by simp [subT]) (by simp))⟩
    · have g3 : m.tmod 1000000000 = ((M % 1000000000 : Nat) : Int) := by
        rw [e2, Int.tmod_eq_emod_of_nonneg (by omega)]; omega
      have g2 : (((M % 1000000000 : Nat) : Int) < 0) = False := eq_false (by omega)
      refine vc_soundN 1000 ?_
      simp only [f1, g2, g3, e3, hap, Int.reduceEq, ↓wPre, wPost, wFast, wCore, beq_self_eq_true, ite_true, ite_false, false_implies, true_implies, implies_true, eq_self, ne_eq, ↓reduceIte, reduceIte, Nat.reducePow, Nat.reduceLT, Nat.reduceLeDiff, Nat.reduceEqDiff, Nat.reduceAdd, Nat.reduceMul, Nat.reduceSub, Nat.reduceBEq, Nat.reduceDiv, Nat.reduceMod, reduceCtorEq, sl1, wFacts, zA, qA, qC, nb_tf, nb_ft, nb_tt, nb_ff]
      exact ⟨⟨by omega, by omega⟩, next (l ++ [((M % 1000000000 : Nat) : Int)], M / 1000000000) _ inv (by simp only; omega) (sub_mk rfl (by simp [subL, I]) (by simp [subT]) (by simp))⟩
/-! ### Sums and differences of digits -/
theorem addC_le (a b : Nat → Int) (i : Nat) : 0 ≤ addC a b i ∧ addC a b i ≤ 1 := by have := addC_bit a b i; omega
theorem rplus_fn (a b : List Int) (ha : dig a) (hb : dig b) (la : a.length < 1000000000000) (lb : b.length < 1000000000000) :
    ∃ L, dig L ∧ val L = val a + val b ∧ L.length ≤ max a.length b.length + 1 ∧ Fn Try.prog 87 [ints a, ints b] (ints L) := by
  obtain ⟨n, hn⟩ : ∃ n, n = max a.length b.length := ⟨_, rfl⟩
  obtain ⟨e, he⟩ : ∃ e, e = if addC (dg a) (dg b) n = 0 then n else n + 1 := ⟨_, rfl⟩
  have hz : ∀ i, n ≤ i → dg a i = 0 ∧ dg b i = 0 := fun i hi => ⟨dg_out (by omega), dg_out (by omega)⟩
  have hce : addC (dg a) (dg b) e = 0 := by
    rw [he]
    split
    · assumption
    · have h1 := addC_le (dg a) (dg b) n
      obtain ⟨z1, z2⟩ := hz n (Nat.le_refl _)
      simp only [addC, z1, z2]
      rw [if_neg (by omega)]
  have hne : n ≤ e ∧ e ≤ n + 1 := by rw [he]; split <;> omega
  refine ⟨tab (addO (dg a) (dg b)) e, dig_tab fun i _ => addO_dig (dg_dig ha i) (dg_dig hb i), ?_, by rw [tab_len]; omega, ?_⟩
  · have := add_sum (dg a) (dg b) e
    rw [hce, Int.mul_zero, Int.add_zero] at this
    rw [val_tab, this, sm_dg a e (by omega), sm_dg b e (by omega)]
  obtain ⟨R, hR⟩ : ∃ R, R = ints (tab (addO (dg a) (dg b)) e) := ⟨_, rfl⟩
  have sR : Settled R := hR ▸ settled_ints _
  rw [← hR]
  refine Fn.intro (fn := Try.f87) Try.call87 Try.func87 rfl mixed 9 [] [] [] (by kernel_rfl) (Nat.le_of_ble_eq_true rfl) (by simp [settled_ints, settled_I, settled_fn0, settled_intss, settled_bool, settled_nil, settled_zA, settled_qA, settled_zR, settled_ofA, settled_int]) (vc_soundN 1000 ?_); simp (config := { maxSteps := 2000000 }) only [AS.start, ↓wPre, wPost, wFast, wCore, beq_self_eq_true, ite_true, ite_false, false_implies, true_implies, implies_true, eq_self, ne_eq, ↓reduceIte, reduceIte, Nat.reducePow, Nat.reduceLT, Nat.reduceLeDiff, Nat.reduceEqDiff, Nat.reduceAdd, Nat.reduceMul, Nat.reduceSub, Nat.reduceBEq, Nat.reduceDiv, Nat.reduceMod, reduceCtorEq, sl1, wFacts, zA, qA, qC, nb_tf, nb_ft, nb_tt, nb_ff]
  refine run_loop (fun i : Nat => ⟨9, [], [ints a, ints b, .any, .any, .any, .osl 0 i 1 0 i, I (addC (dg a) (dg b) i), I i, .any], [], [.row i i (slF I 0 (tab (addO (dg a) (dg b)) i))]⟩)
    (fun i => i ≤ e) (fun i => e - i) 0 (by omega) ((sub_adopt 5 1 (slF I 0 []) rfl).trans (sub_mk rfl (by simp [AS.put, subL, ints, sl1, I, addC]) (by simp [AS.put, subT]) (by simp [AS.put, tab]))) ?_
  intro i hi next
  have cb := addC_le (dg a) (dg b) i
  have w1 := wj i (by omega)
  by_cases hgo : i < e
  · have da := dg_dig ha i
    have db := dg_dig hb i
    unfold digt at da db
    have k1 : IntKind.i64.wrap (dg a i + dg b i) = dg a i + dg b i := by rw [IntKind.wrap_i64]; omega
    have k2 : IntKind.i64.wrap (dg a i + dg b i + addC (dg a) (dg b) i) = dg a i + dg b i + addC (dg a) (dg b) i := by rw [IntKind.wrap_i64]; omega
    have k3 : (dg a i + dg b i + addC (dg a) (dg b) i).tmod 1000000000 = addO (dg a) (dg b) i := by
      rw [Int.tmod_eq_emod_of_nonneg (by omega)]; unfold addO; split <;> omega
    have k4 : IntKind.i64.wrap ((dg a i + dg b i + addC (dg a) (dg b) i).tdiv 1000000000) = addC (dg a) (dg b) (i + 1) := by
      rw [Int.tdiv_eq_ediv_of_nonneg (by omega), IntKind.wrap_i64]; simp only [addC]; split <;> omega
    have hap := appF_I (tab (addO (dg a) (dg b)) i) (addO (dg a) (dg b) i)
    rw [tab_len, ← tab_succ] at hap
    have ca := digit_fn a i
    have cb' := digit_fn b i
    have hcar : n ≤ i → 0 < addC (dg a) (dg b) i := fun h => by
      have : i = n := by omega
      subst this
      have : addC (dg a) (dg b) i ≠ 0 := fun h0 => by rw [if_pos h0] at he; omega
      omega
    have fin : ∀ s' : AS, Sub 0 s' ⟨9, [], [ints a, ints b, .any, .any, .any, .osl 0 (i + 1) 1 0 (i + 1), I (addC (dg a) (dg b) (i + 1)), I ((i + 1 : Nat) : Int), .any], [], [.row (i + 1) (i + 1) (slF I 0 (tab (addO (dg a) (dg b)) (i + 1)))]⟩ → Run _ _ s' := fun s' h => next (i + 1) s' (by omega) (by omega) h
    by_cases h1 : i < a.length
    · have f1 : ((i : Int) < a.length) = True := eq_true (by omega)
      have f1' : (i < a.length) = True := eq_true h1
      refine vc_soundN 1000 ?_
      simp only [f1, f1', w1, ↓wPre, wPost, wFast, wCore, beq_self_eq_true, ite_true, ite_false, false_implies, true_implies, implies_true, eq_self, ne_eq, ↓reduceIte, reduceIte, Nat.reducePow, Nat.reduceLT, Nat.reduceLeDiff, Nat.reduceEqDiff, Nat.reduceAdd, Nat.reduceMul, Nat.reduceSub, Nat.reduceBEq, Nat.reduceDiv, Nat.reduceMod, reduceCtorEq, sl1, wFacts, zA, qA, qC, nb_tf, nb_ft, nb_tt, nb_ff]
      refine call_fn ca rfl ?_
      simp only [f1, f1', w1, ↓wPre, wPost, wFast, wCore, beq_self_eq_true, ite_true, ite_false, false_implies, true_implies, implies_true, eq_self, ne_eq, ↓reduceIte, reduceIte, Nat.reducePow, Nat.reduceLT, Nat.reduceLeDiff, Nat.reduceEqDiff, Nat.reduceAdd, Nat.reduceMul, Nat.reduceSub, Nat.reduceBEq, Nat.reduceDiv, Nat.reduceMod, reduceCtorEq, sl1, wFacts, zA, qA, qC, nb_tf, nb_ft, nb_tt, nb_ff]
      refine call_fn cb' rfl ?_
      simp only [f1, f1', k1, k2, k3, k4, hap, w1, Int.reduceEq, ↓wPre, wPost, wFast, wCore, beq_self_eq_true, ite_true, ite_false, false_implies, true_implies, implies_true, eq_self, ne_eq, ↓reduceIte, reduceIte, Nat.reducePow, Nat.reduceLT, Nat.reduceLeDiff, Nat.reduceEqDiff, Nat.reduceAdd, Nat.reduceMul, Nat.reduceSub, Nat.reduceBEq, Nat.reduceDiv, Nat.reduceMod, reduceCtorEq, sl1, wFacts, zA, qA, qC, nb_tf, nb_ft, nb_tt, nb_ff]
      exact ⟨⟨by omega, by omega⟩, fin _ (sub_mk rfl (by simp [subL, ints, sl1, I]) (by simp [subT]) rfl)⟩
    have f1 : ((i : Int) < a.length) = False := eq_false (by omega)
    have f1' : (i < a.length) = False := eq_false h1
    by_cases h2 : i < b.length
    · have f2 : ((i : Int) < b.length) = True := eq_true (by omega)
      have f2' : (i < b.length) = True := eq_true h2
      refine vc_soundN 1000 ?_
      simp only [f1, f1', f2, f2', w1, ↓wPre, wPost, wFast, wCore, beq_self_eq_true, ite_true, ite_false, false_implies, true_implies, implies_true, eq_self, ne_eq, ↓reduceIte, reduceIte, Nat.reducePow, Nat.reduceLT, Nat.reduceLeDiff, Nat.reduceEqDiff, Nat.reduceAdd, Nat.reduceMul, Nat.reduceSub, Nat.reduceBEq, Nat.reduceDiv, Nat.reduceMod, reduceCtorEq, sl1, wFacts, zA, qA, qC, nb_tf, nb_ft, nb_tt, nb_ff]
      refine call_fn ca rfl ?_
      simp only [f1, f1', f2, f2', w1, ↓wPre, wPost, wFast, wCore, beq_self_eq_true, ite_true, ite_false, false_implies, true_implies, implies_true, eq_self, ne_eq, ↓reduceIte, reduceIte, Nat.reducePow, Nat.reduceLT, Nat.reduceLeDiff, Nat.reduceEqDiff, Nat.reduceAdd, Nat.reduceMul, Nat.reduceSub, Nat.reduceBEq, Nat.reduceDiv, Nat.reduceMod, reduceCtorEq, sl1, wFacts, zA, qA, qC, nb_tf, nb_ft, nb_tt, nb_ff]
      refine call_fn cb' rfl ?_
      simp only [f1, f1', f2, f2', k1, k2, k3, k4, hap, w1, Int.reduceEq, ↓wPre, wPost, wFast, wCore, beq_self_eq_true, ite_true, ite_false, false_implies, true_implies, implies_true, eq_self, ne_eq, ↓reduceIte, reduceIte, Nat.reducePow, Nat.reduceLT, Nat.reduceLeDiff, Nat.reduceEqDiff, Nat.reduceAdd, Nat.reduceMul, Nat.reduceSub, Nat.reduceBEq, Nat.reduceDiv, Nat.reduceMod, reduceCtorEq, sl1, wFacts, zA, qA, qC, nb_tf, nb_ft, nb_tt, nb_ff]
      exact ⟨⟨by omega, by omega⟩, fin _ (sub_mk rfl (by simp [subL, ints, sl1, I]) (by simp [subT]) rfl)⟩
    · have f2 : ((i : Int) < b.length) = False := eq_false (by omega)
      have f2' : (i < b.length) = False := eq_false h2
      have f3 : (0 < addC (dg a) (dg b) i) = True := eq_true (hcar (by omega))
      refine vc_soundN 1000 ?_
      simp only [f1, f1', f2, f2', f3, w1, ↓wPre, wPost, wFast, wCore, beq_self_eq_true, ite_true, ite_false, false_implies, true_implies, implies_true, eq_self, ne_eq, ↓reduceIte, reduceIte, Nat.reducePow, Nat.reduceLT, Nat.reduceLeDiff, Nat.reduceEqDiff, Nat.reduceAdd, Nat.reduceMul, Nat.reduceSub, Nat.reduceBEq, Nat.reduceDiv, Nat.reduceMod, reduceCtorEq, sl1, wFacts, zA, qA, qC, nb_tf, nb_ft, nb_tt, nb_ff]
      refine call_fn ca rfl ?_
      simp only [f1, f1', f2, f2', f3, w1, ↓wPre, wPost, wFast, wCore, beq_self_eq_true, ite_true, ite_false, false_implies, true_implies, implies_true, eq_self, ne_eq, ↓reduceIte, reduceIte, Nat.reducePow, Nat.reduceLT, Nat.reduceLeDiff, Nat.reduceEqDiff, Nat.reduceAdd, Nat.reduceMul, Nat.reduceSub, Nat.reduceBEq, Nat.reduceDiv, Nat.reduceMod, reduceCtorEq, sl1, wFacts, zA, qA, qC, nb_tf, nb_ft, nb_tt, nb_ff]
      refine call_fn cb' rfl ?_
      simp only [f1, f1', f2, f2', f3, k1, k2, k3, k4, hap, w1, Int.reduceEq, ↓wPre, wPost, wFast, wCore, beq_self_eq_true, ite_true, ite_false, false_implies, true_implies, implies_true, eq_self, ne_eq, ↓reduceIte, reduceIte, Nat.reducePow, Nat.reduceLT, Nat.reduceLeDiff, Nat.reduceEqDiff, Nat.reduceAdd, Nat.reduceMul, Nat.reduceSub, Nat.reduceBEq, Nat.reduceDiv, Nat.reduceMod, reduceCtorEq, sl1, wFacts, zA, qA, qC, nb_tf, nb_ft, nb_tt, nb_ff]
      exact ⟨⟨by omega, by omega⟩, fin _ (sub_mk rfl (by simp [subL, ints, sl1, I]) (by simp [subT]) rfl)⟩
  · obtain rfl : i = e := by omega
    have f1 : ((i : Int) < a.length) = False := eq_false (by omega)
    have f1' : (i < a.length) = False := eq_false (by omega)
    have f2 : ((i : Int) < b.length) = False := eq_false (by omega)
    have f2' : (i < b.length) = False := eq_false (by omega)
    refine vc_soundN 1000 ?_
    simp only [f1, f1', f2, f2', hce, Int.lt_irrefl, ↓wPre, wPost, wFast, wCore, beq_self_eq_true, ite_true, ite_false, false_implies, true_implies, implies_true, eq_self, ne_eq, ↓reduceIte, reduceIte, Nat.reducePow, Nat.reduceLT, Nat.reduceLeDiff, Nat.reduceEqDiff, Nat.reduceAdd, Nat.reduceMul, Nat.reduceSub, Nat.reduceBEq, Nat.reduceDiv, Nat.reduceMod, reduceCtorEq, sl1, wFacts, zA, qA, qC, nb_tf, nb_ft, nb_tt, nb_ff]
    refine ret1 rfl ?_
    rw [hR]
    exact sees_rowE settled_I rfl rfl (tab_len _ _).symm rfl (Nat.le_of_eq (tab_len _ _))
theorem rminus_fn (a b : List Int) (ha : dig a) (hb : dig b) (la : a.length < 1000000000000) (hl : b.length ≤ a.length) (h : val b ≤ val a) : Fn Try.prog 72 [ints a, ints b] (ints (minusF a b)) := by
  obtain ⟨R, hR⟩ : ∃ R, R = ints (minusF a b) := ⟨_, rfl⟩
  have sR : Settled R := hR ▸ settled_ints _
  rw [← hR]
  refine Fn.intro (fn := Try.f72) Try.call72 Try.func72 rfl mixed 9 [] [] [] (by kernel_rfl) (Nat.le_of_ble_eq_true rfl) (by simp [settled_ints, settled_I, settled_fn0, settled_intss, settled_bool, settled_nil, settled_zA, settled_qA, settled_zR, settled_ofA, settled_int]) (vc_soundN 1000 ?_); simp (config := { maxSteps := 2000000 }) only [AS.start, ↓wPre, wPost, wFast, wCore, beq_self_eq_true, ite_true, ite_false, false_implies, true_implies, implies_true, eq_self, ne_eq, ↓reduceIte, reduceIte, Nat.reducePow, Nat.reduceLT, Nat.reduceLeDiff, Nat.reduceEqDiff, Nat.reduceAdd, Nat.reduceMul, Nat.reduceSub, Nat.reduceBEq, Nat.reduceDiv, Nat.reduceMod, reduceCtorEq, sl1, wFacts, zA, qA, qC, nb_tf, nb_ft, nb_tt, nb_ff]
  refine run_loop (fun i : Nat => ⟨9, [], [ints a, ints b, .any, .any, .any, .osl 0 i 1 0 i, I (subC (dg a) (dg b) i), I i, .any], [], [.row i i (slF I 0 (tab (subO (dg a) (dg b)) i))]⟩)
    (fun i => i ≤ a.length) (fun i => a.length - i) 0 (by omega) ((sub_adopt 5 1 (slF I 0 []) rfl).trans (sub_mk rfl (by simp [AS.put, subL, ints, sl1, I, subC]) (by simp [AS.put, subT]) (by simp [AS.put, tab]))) ?_
  intro i hi next
  have cb := subC_bit (dg a) (dg b) i
  have w1 := wj i (by omega)
  by_cases hgo : i < a.length
  · have da := dg_dig ha i
    have db := dg_dig hb i
    unfold digt at da db
    have eA : a.getD i 0 = dg a i := rfl
    have f1 : ((i : Int) < a.length) = True := eq_true (by omega)
    have f1' : (i < a.length) = True := eq_true hgo
    have k1 : IntKind.i64.wrap (dg a i - dg b i) = dg a i - dg b i := by rw [IntKind.wrap_i64]; omega
    have k2 : IntKind.i64.wrap (dg a i - dg b i - subC (dg a) (dg b) i) = dg a i - dg b i - subC (dg a) (dg b) i := by rw [IntKind.wrap_i64]; omega
    have hap := appF_I (tab (subO (dg a) (dg b)) i) (subO (dg a) (dg b) i)
    rw [tab_len, ← tab_succ] at hap
    have ca := digit_fn b i
    by_cases hv : dg a i - dg b i - subC (dg a) (dg b) i < 0
    · have f3 : (dg a i - dg b i - subC (dg a) (dg b) i < 0) = True := eq_true hv
      have k3 : IntKind.i64.wrap (dg a i - dg b i - subC (dg a) (dg b) i + 1000000000) = subO (dg a) (dg b) i := by
        unfold subO; rw [if_pos hv, IntKind.wrap_i64]; omega
      have k4 : subC (dg a) (dg b) (i + 1) = 1 := by simp only [subC]; rw [if_pos hv]
      refine vc_soundN 1000 ?_
      simp only [f1, f1', eA, w1, ↓wPre, wPost, wFast, wCore, beq_self_eq_true, ite_true, ite_false, false_implies, true_implies, implies_true, eq_self, ne_eq, ↓reduceIte, reduceIte, Nat.reducePow, Nat.reduceLT, Nat.reduceLeDiff, Nat.reduceEqDiff, Nat.reduceAdd, Nat.reduceMul, Nat.reduceSub, Nat.reduceBEq, Nat.reduceDiv, Nat.reduceMod, reduceCtorEq, sl1, wFacts, zA, qA, qC, nb_tf, nb_ft, nb_tt, nb_ff]
      refine call_fn ca rfl ?_
      simp only [k1, k2, k3, f3, hap, w1, ↓wPre, wPost, wFast, wCore, beq_self_eq_true, ite_true, ite_false, false_implies, true_implies, implies_true, eq_self, ne_eq, ↓reduceIte, reduceIte, Nat.reducePow, Nat.reduceLT, Nat.reduceLeDiff, Nat.reduceEqDiff, Nat.reduceAdd, Nat.reduceMul, Nat.reduceSub, Nat.reduceBEq, Nat.reduceDiv, Nat.reduceMod, reduceCtorEq, sl1, wFacts, zA, qA, qC, nb_tf, nb_ft, nb_tt, nb_ff]
      exact ⟨⟨by omega, by omega⟩, next (i + 1) _ (by omega) (by omega) (sub_mk rfl (by simp [subL, ints, sl1, I, k4]) (by simp [subT]) rfl)⟩
    · have f3 : (dg a i - dg b i - subC (dg a) (dg b) i < 0) = False := eq_false hv
      have k3 : dg a i - dg b i - subC (dg a) (dg b) i = subO (dg a) (dg b) i := by unfold subO; rw [if_neg hv]
      have k4 : subC (dg a) (dg b) (i + 1) = 0 := by simp only [subC]; rw [if_neg hv]
      have f3' : (subO (dg a) (dg b) i < 0) = False := by rw [← k3]; exact f3
      refine vc_soundN 1000 ?_
      simp only [f1, f1', eA, w1, ↓wPre, wPost, wFast, wCore, beq_self_eq_true, ite_true, ite_false, false_implies, true_implies, implies_true, eq_self, ne_eq, ↓reduceIte, reduceIte, Nat.reducePow, Nat.reduceLT, Nat.reduceLeDiff, Nat.reduceEqDiff, Nat.reduceAdd, Nat.reduceMul, Nat.reduceSub, Nat.reduceBEq, Nat.reduceDiv, Nat.reduceMod, reduceCtorEq, sl1, wFacts, zA, qA, qC, nb_tf, nb_ft, nb_tt, nb_ff]
      refine call_fn ca rfl ?_
      simp only [k1, k2.trans k3, f3', hap, w1, ↓wPre, wPost, wFast, wCore, beq_self_eq_true, ite_true, ite_false, false_implies, true_implies, implies_true, eq_self, ne_eq, ↓reduceIte, reduceIte, Nat.reducePow, Nat.reduceLT, Nat.reduceLeDiff, Nat.reduceEqDiff, Nat.reduceAdd, Nat.reduceMul, Nat.reduceSub, Nat.reduceBEq, Nat.reduceDiv, Nat.reduceMod, reduceCtorEq, sl1, wFacts, zA, qA, qC, nb_tf, nb_ft, nb_tt, nb_ff]
      exact ⟨⟨by omega, by omega⟩, next (i + 1) _ (by omega) (by omega) (sub_mk rfl (by simp [subL, ints, sl1, I, k4]) (by simp [subT]) rfl)⟩
  · obtain rfl : i = a.length := by omega
    refine vc_soundN 1000 ?_
    simp only [Int.lt_irrefl, Nat.lt_irrefl, ↓wPre, wPost, wFast, wCore, beq_self_eq_true, ite_true, ite_false, false_implies, true_implies, implies_true, eq_self, ne_eq, ↓reduceIte, reduceIte, Nat.reducePow, Nat.reduceLT, Nat.reduceLeDiff, Nat.reduceEqDiff, Nat.reduceAdd, Nat.reduceMul, Nat.reduceSub, Nat.reduceBEq, Nat.reduceDiv, Nat.reduceMod, reduceCtorEq, sl1, wFacts, zA, qA, qC, nb_tf, nb_ft, nb_tt, nb_ff]
    refine ret1 rfl ?_
    rw [hR]
    exact sees_rowE settled_I rfl rfl (tab_len _ _).symm rfl (Nat.le_of_eq (tab_len _ _))
end
end Go.Ab.N

namespace Go.Ab.N
open Go Go.RowKit Go.Proofs
noncomputable section
set_option maxRecDepth 10000
set_option maxHeartbeats 2000000
set_option linter.unusedSimpArgs false
set_option linter.unusedVariables false
open Classical

def rmulSt (sx sy : Bool) (a b : List Int) (p : List Int × Nat) : AS :=
  ⟨10, [], [.any, .any, .ref 0 0 0, .ref 1 0 0, .ref 2 0 0, .osl 3 0 1 0 (a.length + b.length), I p.2, .any, .any, .any], [],
    [.row 0 2 (ofL [.bool sx, ints a]), .row 0 2 (ofL [.bool sy, ints b]), .row 0 2 (ofL [.bool false, .sl 0 0 (fun _ => .any) true]), .row 0 (a.length + b.length) (slF I 0 p.1)]⟩
def rmulSt2 (sx sy : Bool) (a b : List Int) (i : Nat) (p : List Int × Int × Nat) : AS :=
  ⟨10, [], [.any, .any, .ref 0 0 0, .ref 1 0 0, .ref 2 0 0, .osl 3 0 1 0 (a.length + b.length), I i, I p.2.1, I p.2.2, .any], [],
    [.row 0 2 (ofL [.bool sx, ints a]), .row 0 2 (ofL [.bool sy, ints b]), .row 0 2 (ofL [.bool false, .sl 0 0 (fun _ => .any) true]), .row 0 (a.length + b.length) (slF I 0 p.1)]⟩
theorem rmulz_gen (sx sy : Bool) (a b : List Int) (ha : dig a) (hb : dig b) (la : a.length < room) (lb : b.length < room) :
    Fn Try.prog 95 [zR sx a, zR sy b] (zA (sgn (sx != sy) (val a * val b))) := by
  obtain ⟨R, hR⟩ : ∃ R, R = zA (sgn (sx != sy) (val a * val b)) := ⟨_, rfl⟩
  have sR : Settled R := hR ▸ settled_zA _
  unfold room at la lb
  rw [← hR]
  have w0 : IntKind.i64.wrap ((a.length : Int) + b.length) = ((a.length + b.length : Nat) : Int) := by rw [IntKind.wrap_i64]; omega
  refine Fn.intro (fn := Try.f95) Try.call95 Try.func95 rfl mixed 10 [] [] [] (by kernel_rfl) (Nat.le_of_ble_eq_true rfl) (by simp [settled_zR]) (vc_soundN 1000 ?_)
  simp (config := { maxSteps := 2000000 }) only [AS.start, zR, w0, Int.toNat_natCast, ↓wPre, wPost, wFast, wCore, beq_self_eq_true, ite_true, ite_false, false_implies, true_implies, implies_true, eq_self, ne_eq, ↓reduceIte, reduceIte, Nat.reducePow, Nat.reduceLT, Nat.reduceLeDiff, Nat.reduceEqDiff, Nat.reduceAdd, Nat.reduceMul, Nat.reduceSub, Nat.reduceBEq, Nat.reduceDiv, Nat.reduceMod, reduceCtorEq, sl1, wFacts, zA, qA, qC, nb_tf, nb_ft, nb_tt, nb_ff]
  refine ⟨⟨by omega, by omega⟩, ?_⟩
  refine run_loop (rmulSt sx sy a b) (mulI a b) (fun p => a.length - p.2) (List.replicate (a.length + b.length) 0, 0) ?_ ?_ ?_
  · refine ⟨Nat.zero_le _, by simp, fun d hd => ?_, fun j _ => ?_, ?_⟩
    · rw [(List.mem_replicate.1 hd).2]; exact ⟨by omega, by omega⟩
    · simp [List.getD_eq_getElem?_getD, List.getElem?_replicate]
      split <;> rfl
    · simp only [List.take_zero]; rw [val_zeros]; simp [val]
  · refine (sub_rowf 3 (a.length + b.length) (slF I 0 (List.replicate (a.length + b.length) 0)) rfl (Nat.le_refl _) ?_).trans (sub_mk rfl ?_ ?_ ?_)
    · intro j hj
      rw [slF_at]
      simp [List.getD_eq_getElem?_getD, List.getElem?_replicate, hj, I]
    · simp [rmulSt, subL, ints, sl1, I]
    · simp [rmulSt, subT]
    · rfl
  rintro ⟨O, i⟩ hO next
  obtain ⟨g1, g2, g3, g4, g5⟩ := id hO
  simp only at g1 g2 g3 g4 g5
  have w1 := wj i (by omega)
  by_cases hi : i < a.length
  · have e1 : ((i : Int) < a.length) = True := eq_true (by omega)
    have e2 : (i < a.length) = True := eq_true hi
    have eA : a.getD i 0 = dg a i := rfl
    refine vc_soundN 1000 ?_
    simp (config := { maxSteps := 2000000 }) only [rmulSt, w1, e1, e2, eA, ↓wPre, wPost, wFast, wCore, beq_self_eq_true, ite_true, ite_false, false_implies, true_implies, implies_true, eq_self, ne_eq, ↓reduceIte, reduceIte, Nat.reducePow, Nat.reduceLT, Nat.reduceLeDiff, Nat.reduceEqDiff, Nat.reduceAdd, Nat.reduceMul, Nat.reduceSub, Nat.reduceBEq, Nat.reduceDiv, Nat.reduceMod, reduceCtorEq, sl1, wFacts, zA, qA, qC, nb_tf, nb_ft, nb_tt, nb_ff]
    refine run_loop (rmulSt2 sx sy a b i) (mulJ a b O i) (fun p => b.length - p.2.2) (O, 0, 0) ⟨Nat.zero_le _, g2, g3, ⟨by simp, by simp⟩, g4, by simp [val]⟩ (sub_mk rfl (by simp [rmulSt2, subL, ints, sl1, I]) (by simp [rmulSt2, subT]) (by simp [rmulSt2, ints, sl1])) ?_
    rintro ⟨O', c, k⟩ hJ next2
    obtain ⟨j1, j2, j3, j4, j5, j6⟩ := id hJ
    simp only at j1 j2 j3 j4 j5 j6
    have w2 := wj k (by omega)
    by_cases hk : k < b.length
    · obtain ⟨v0, v1, hst⟩ := mulJ_step (a := a) (b := b) (O := O) (i := i) (O' := O') (c := c) (k := k) ha hb hi hk hJ rfl
      have o1 := dig_at j3 (i + k)
      have m1 := digt_mul (dg_dig ha i) (dg_dig hb k)
      have eB : b.getD k 0 = dg b k := rfl
      have f1 : ((k : Int) < b.length) = True := eq_true (by omega)
      have f2 : (k < b.length) = True := eq_true hk
      have f3 : IntKind.i64.wrap ((i : Int) + k) = ((i + k : Nat) : Int) := by rw [IntKind.wrap_i64]; omega
      have f4 : (i + k < a.length + b.length) = True := eq_true (by omega)
      have f5 : (i + k + 1 ≤ a.length + b.length) = True := eq_true (by omega)
      unfold digt at o1 j4
      have hU : ∀ x : Int, upd (slF I 0 O') (i + k) (.int .i64 x) = slF I 0 (O'.set (i + k) x) := fun x => upd_I _ _ _ (by omega)
      have q1 : IntKind.i64.wrap (dg a i * dg b k) = dg a i * dg b k := by rw [IntKind.wrap_i64]; omega
      have q2 : IntKind.i64.wrap (O'.getD (i + k) 0 + dg a i * dg b k) = O'.getD (i + k) 0 + dg a i * dg b k := by rw [IntKind.wrap_i64]; omega
      generalize hv : O'.getD (i + k) 0 + dg a i * dg b k + c = v at *
      have q3 : IntKind.i64.wrap v = v := by rw [IntKind.wrap_i64]; omega
      have q4 : v.tmod 1000000000 = v - v / 1000000000 * 1000000000 := by rw [Int.tmod_eq_emod_of_nonneg v0]; omega
      have q5 : IntKind.i64.wrap (v.tdiv 1000000000) = v / 1000000000 := by rw [Int.tdiv_eq_ediv_of_nonneg v0, IntKind.wrap_i64]; omega
      refine vc_soundN 1000 ?_
      simp (config := { maxSteps := 2000000 }) only [rmulSt2, w2, e2, eA, eB, f1, f2, f3, f4, f5, q1, q2, hv, q3, q4, q5, hU, Int.toNat_natCast, Int.reduceEq, ↓wPre, wPost, wFast, wCore, beq_self_eq_true, ite_true, ite_false, false_implies, true_implies, implies_true, eq_self, ne_eq, ↓reduceIte, reduceIte, Nat.reducePow, Nat.reduceLT, Nat.reduceLeDiff, Nat.reduceEqDiff, Nat.reduceAdd, Nat.reduceMul, Nat.reduceSub, Nat.reduceBEq, Nat.reduceDiv, Nat.reduceMod, reduceCtorEq, sl1, wFacts, zA, qA, qC, nb_tf, nb_ft, nb_tt, nb_ff]
      exact next2 _ _ hst (by simp only; omega) (sub_mk rfl (by simp [rmulSt2, subL, ints, sl1, I]) (by simp [rmulSt2, subT]) rfl)
    · obtain rfl : k = b.length := by omega
      have hst := mulI_step (a := a) (b := b) (O := O) (i := i) (O' := O') (c := c) hi hO hJ
      have f3 : IntKind.i64.wrap ((i : Int) + b.length) = ((i + b.length : Nat) : Int) := by rw [IntKind.wrap_i64]; omega
      have f4 : (i + b.length < a.length + b.length) = True := eq_true (by omega)
      have f5 : (i + b.length + 1 ≤ a.length + b.length) = True := eq_true (by omega)
      have hU : ∀ x : Int, upd (slF I 0 O') (i + b.length) (.int .i64 x) = slF I 0 (O'.set (i + b.length) x) := fun x => upd_I _ _ _ (by omega)
      refine vc_soundN 1000 ?_
      simp (config := { maxSteps := 2000000 }) only [rmulSt2, w1, e1, e2, f3, f4, f5, hU, Int.lt_irrefl, Nat.lt_irrefl, Int.toNat_natCast, ↓wPre, wPost, wFast, wCore, beq_self_eq_true, ite_true, ite_false, false_implies, true_implies, implies_true, eq_self, ne_eq, ↓reduceIte, reduceIte, Nat.reducePow, Nat.reduceLT, Nat.reduceLeDiff, Nat.reduceEqDiff, Nat.reduceAdd, Nat.reduceMul, Nat.reduceSub, Nat.reduceBEq, Nat.reduceDiv, Nat.reduceMod, reduceCtorEq, sl1, wFacts, zA, qA, qC, nb_tf, nb_ft, nb_tt, nb_ff]
      exact next _ _ hst (by simp only; omega) (sub_mk rfl (by simp [rmulSt, subL, ints, sl1, I]) (by simp [rmulSt, subT]) rfl)
  · obtain rfl : i = a.length := by omega
    have hval : val O = val a * val b := by rw [g5, List.take_length]
    have c := normal_z (sx != sy) O g3 (by omega)
    rw [hval, ← hR] at c
    have e5 : (!(sx == sy)) = (sx != sy) := by cases sx <;> cases sy <;> rfl
    have hfr := sub_freeze (m := 0) (s := rmulSt sx sy a b (O, a.length)) 3 5 (ver := 0) (l := O) (by show some _ = some _; rw [g2]) (by show AV.osl 3 0 1 0 _ = _; rw [g2]) (by simp [rmulSt])
    refine Run.sub ?_ hfr
    refine vc_soundN 1000 ?_
    simp (config := { maxSteps := 2000000 }) only [rmulSt, Int.lt_irrefl, Nat.lt_irrefl, e5, ↓wPre, wPost, wFast, wCore, beq_self_eq_true, ite_true, ite_false, false_implies, true_implies, implies_true, eq_self, ne_eq, ↓reduceIte, reduceIte, Nat.reducePow, Nat.reduceLT, Nat.reduceLeDiff, Nat.reduceEqDiff, Nat.reduceAdd, Nat.reduceMul, Nat.reduceSub, Nat.reduceBEq, Nat.reduceDiv, Nat.reduceMod, reduceCtorEq, sl1, wFacts, zA, qA, qC, nb_tf, nb_ft, nb_tt, nb_ff]
    refine call_fn c rfl ?_
    simp only [hR, ↓wPre, wPost, wFast, wCore, beq_self_eq_true, ite_true, ite_false, false_implies, true_implies, implies_true, eq_self, ne_eq, ↓reduceIte, reduceIte, Nat.reducePow, Nat.reduceLT, Nat.reduceLeDiff, Nat.reduceEqDiff, Nat.reduceAdd, Nat.reduceMul, Nat.reduceSub, Nat.reduceBEq, Nat.reduceDiv, Nat.reduceMod, reduceCtorEq, sl1, wFacts, zA, qA, qC, nb_tf, nb_ft, nb_tt, nb_ff]
    exact retA rfl ldk42 rfl rfl rfl sR (hR.trans rfl)
theorem rmulz_fn (x y : Int) (hx : bl x < room) (hy : bl y < room) : Fn Try.prog 95 [zA x, zA y] (zA (x * y)) := by
  have h := rmulz_gen (decide (x < 0)) (decide (y < 0)) _ _ (digs_dig x.natAbs) (digs_dig y.natAbs) hx hy
  have e : sgn (decide (x < 0) != decide (y < 0)) (val (digs x.natAbs) * val (digs y.natAbs)) = x * y := by
    rw [digs_val, digs_val]
    have hx' := sgn_abs x
    have hy' := sgn_abs y
    conv => rhs; rw [← hx', ← hy']
    generalize (x.natAbs : Int) = p
    generalize (y.natAbs : Int) = q
    unfold sgn
    by_cases h1 : x < 0 <;> by_cases h2 : y < 0 <;> simp [h1, h2, Int.neg_mul, Int.mul_neg]
  rw [e] at h
  exact h
theorem val_two {d : List Int} (h : d.length ≤ 2) : dg d 1 * 1000000000 + dg d 0 = val d := by
  match d, h with
  | [], _ => rfl
  | [x], _ => simp [dg, val]
  | [x, y], _ => simp [dg, val]; try omega
  | _ :: _ :: _ :: _, h => simp at h
theorem tiny_fn (d : List Int) (h : dig d) (hl : d.length ≤ 2) : Fn Try.prog 69 [ints d] (I (val d)) := by
  have d0 := dg_dig h 0
  have d1 := dg_dig h 1
  unfold digt at d0 d1
  have w1 : IntKind.i64.wrap (dg d 1 * 1000000000) = dg d 1 * 1000000000 := by rw [IntKind.wrap_i64]; omega
  have w2 : IntKind.i64.wrap (dg d 1 * 1000000000 + dg d 0) = val d := by rw [← val_two hl, IntKind.wrap_i64]; omega
  refine Fn.intro (fn := Try.f69) Try.call69 Try.func69 rfl mixed 3 [] [] [] (by kernel_rfl) (Nat.le_of_ble_eq_true rfl) (by simp [settled_ints, settled_I, settled_fn0, settled_intss, settled_bool, settled_nil, settled_zA, settled_qA, settled_zR, settled_ofA, settled_int]) (vc_soundN 1000 ?_); simp (config := { maxSteps := 2000000 }) only [AS.start, ↓wPre, wPost, wFast, wCore, beq_self_eq_true, ite_true, ite_false, false_implies, true_implies, implies_true, eq_self, ne_eq, ↓reduceIte, reduceIte, Nat.reducePow, Nat.reduceLT, Nat.reduceLeDiff, Nat.reduceEqDiff, Nat.reduceAdd, Nat.reduceMul, Nat.reduceSub, Nat.reduceBEq, Nat.reduceDiv, Nat.reduceMod, reduceCtorEq, sl1, wFacts, zA, qA, qC, nb_tf, nb_ft, nb_tt, nb_ff]
  refine call_fn (digit_fn d 1) rfl ?_
  simp only [w1, ↓wPre, wPost, wFast, wCore, beq_self_eq_true, ite_true, ite_false, false_implies, true_implies, implies_true, eq_self, ne_eq, ↓reduceIte, reduceIte, Nat.reducePow, Nat.reduceLT, Nat.reduceLeDiff, Nat.reduceEqDiff, Nat.reduceAdd, Nat.reduceMul, Nat.reduceSub, Nat.reduceBEq, Nat.reduceDiv, Nat.reduceMod, reduceCtorEq, sl1, wFacts, zA, qA, qC, nb_tf, nb_ft, nb_tt, nb_ff]
  refine call_fn (digit_fn d 0) rfl ?_
  simp only [w1, w2, ↓wPre, wPost, wFast, wCore, beq_self_eq_true, ite_true, ite_false, false_implies, true_implies, implies_true, eq_self, ne_eq, ↓reduceIte, reduceIte, Nat.reducePow, Nat.reduceLT, Nat.reduceLeDiff, Nat.reduceEqDiff, Nat.reduceAdd, Nat.reduceMul, Nat.reduceSub, Nat.reduceBEq, Nat.reduceDiv, Nat.reduceMod, reduceCtorEq, sl1, wFacts, zA, qA, qC, nb_tf, nb_ft, nb_tt, nb_ff]
  exact ret1E rfl rfl (settled_I _) rfl
theorem times_fn (a : List Int) (k : Int) (ha : canon a) (hk : digt k) (la : a.length < 100000000000) : Fn Try.prog 86 [ints a, I k] (ints (digs (val a * k).toNat)) := by
  have v0 := val_nonneg ha.1
  unfold digt at hk
  have ea : ints a = ints (digs (val a).toNat) := by rw [digs_of_canon ha]
  have eva : ((val a).toNat : Int) = val a := val_nat ha.1
  have c1 := normal_z false a ha.1 (by omega)
  rw [show sgn false (val a) = ((val a).toNat : Int) from eva.symm] at c1
  have bla : bl ((val a).toNat : Int) < room := by rw [bl_nat, digs_of_canon ha]; unfold room; omega
  have c2 := rofZ_fn k ⟨by omega, by omega⟩
  have c3 := rmulz_fn ((val a).toNat : Int) k bla (by have := bl_i64 (n := k) ⟨by omega, by omega⟩; unfold room; omega)
  have m0 : 0 ≤ val a * k := Int.mul_nonneg v0 hk.1
  rw [eva] at c3
  have hz : zA (val a * k) = .agg [.bool false, ints (digs (val a * k).toNat)] := by
    rw [← zA_nat, Int.toNat_of_nonneg m0]
  rw [hz, show zA (val a) = zA ((val a).toNat : Int) by rw [eva]] at c3
  obtain ⟨R, hR⟩ : ∃ R, R = ints (digs (val a * k).toNat) := ⟨_, rfl⟩
  have sR : Settled R := hR ▸ settled_ints _
  rw [← hR]
  refine Fn.intro (fn := Try.f86) Try.call86 Try.func86 rfl mixed 6 [] [] [] (by kernel_rfl) (Nat.le_of_ble_eq_true rfl) (by simp [settled_ints, settled_I, settled_fn0, settled_intss, settled_bool, settled_nil, settled_zA, settled_qA, settled_zR, settled_ofA, settled_int]) (vc_soundN 1000 ?_); simp (config := { maxSteps := 2000000 }) only [AS.start, ↓wPre, wPost, wFast, wCore, beq_self_eq_true, ite_true, ite_false, false_implies, true_implies, implies_true, eq_self, ne_eq, ↓reduceIte, reduceIte, Nat.reducePow, Nat.reduceLT, Nat.reduceLeDiff, Nat.reduceEqDiff, Nat.reduceAdd, Nat.reduceMul, Nat.reduceSub, Nat.reduceBEq, Nat.reduceDiv, Nat.reduceMod, reduceCtorEq, sl1, wFacts, zA, qA, qC, nb_tf, nb_ft, nb_tt, nb_ff]
  refine call_fn c1 rfl ?_
  simp only [↓wPre, wPost, wFast, wCore, beq_self_eq_true, ite_true, ite_false, false_implies, true_implies, implies_true, eq_self, ne_eq, ↓reduceIte, reduceIte, Nat.reducePow, Nat.reduceLT, Nat.reduceLeDiff, Nat.reduceEqDiff, Nat.reduceAdd, Nat.reduceMul, Nat.reduceSub, Nat.reduceBEq, Nat.reduceDiv, Nat.reduceMod, reduceCtorEq, sl1, wFacts, zA, qA, qC, nb_tf, nb_ft, nb_tt, nb_ff]
  refine call_fn c2 rfl ?_
  simp only [↓wPre, wPost, wFast, wCore, beq_self_eq_true, ite_true, ite_false, false_implies, true_implies, implies_true, eq_self, ne_eq, ↓reduceIte, reduceIte, Nat.reducePow, Nat.reduceLT, Nat.reduceLeDiff, Nat.reduceEqDiff, Nat.reduceAdd, Nat.reduceMul, Nat.reduceSub, Nat.reduceBEq, Nat.reduceDiv, Nat.reduceMod, reduceCtorEq, sl1, wFacts, zA, qA, qC, nb_tf, nb_ft, nb_tt, nb_ff]
  refine call_fn c3 rfl ?_
  simp only [↓wPre, wPost, wFast, wCore, beq_self_eq_true, ite_true, ite_false, false_implies, true_implies, implies_true, eq_self, ne_eq, ↓reduceIte, reduceIte, Nat.reducePow, Nat.reduceLT, Nat.reduceLeDiff, Nat.reduceEqDiff, Nat.reduceAdd, Nat.reduceMul, Nat.reduceSub, Nat.reduceBEq, Nat.reduceDiv, Nat.reduceMod, reduceCtorEq, sl1, wFacts, zA, qA, qC, nb_tf, nb_ft, nb_tt, nb_ff]
  exact ret1E rfl rfl sR hR.symm
theorem rnegz_fn (z : Int) (hz : bl z < room) : Fn Try.prog 42 [zA z] (zA (-z)) := by
  unfold bl room at hz
  obtain ⟨R, hR⟩ : ∃ R, R = zA (-z) := ⟨_, rfl⟩
  have sR : Settled R := hR ▸ settled_zA _
  rw [← hR]
  have c := normal_z (!decide (z < 0)) (digs z.natAbs) (digs_dig _) (by omega)
  have e : sgn (!decide (z < 0)) (val (digs z.natAbs)) = -z := by
    rw [digs_val]; unfold sgn
    by_cases h : z < 0
    · simp [h]; omega
    · simp [h]; omega
  rw [e, ← hR] at c
  refine Fn.intro (fn := Try.f42) Try.call42 Try.func42 rfl mixed 3 [] [] [] (by kernel_rfl) (Nat.le_of_ble_eq_true rfl) (by simp [settled_ints, settled_I, settled_fn0, settled_intss, settled_bool, settled_nil, settled_zA, settled_qA, settled_zR, settled_ofA, settled_int]) (vc_soundN 1000 ?_); simp (config := { maxSteps := 2000000 }) only [AS.start, ↓wPre, wPost, wFast, wCore, beq_self_eq_true, ite_true, ite_false, false_implies, true_implies, implies_true, eq_self, ne_eq, ↓reduceIte, reduceIte, Nat.reducePow, Nat.reduceLT, Nat.reduceLeDiff, Nat.reduceEqDiff, Nat.reduceAdd, Nat.reduceMul, Nat.reduceSub, Nat.reduceBEq, Nat.reduceDiv, Nat.reduceMod, reduceCtorEq, sl1, wFacts, zA, qA, qC, nb_tf, nb_ft, nb_tt, nb_ff]
  refine call_fn c rfl ?_
  simp only [hR, ↓wPre, wPost, wFast, wCore, beq_self_eq_true, ite_true, ite_false, false_implies, true_implies, implies_true, eq_self, ne_eq, ↓reduceIte, reduceIte, Nat.reducePow, Nat.reduceLT, Nat.reduceLeDiff, Nat.reduceEqDiff, Nat.reduceAdd, Nat.reduceMul, Nat.reduceSub, Nat.reduceBEq, Nat.reduceDiv, Nat.reduceMod, reduceCtorEq, sl1, wFacts, zA, qA, qC, nb_tf, nb_ft, nb_tt, nb_ff]
  exact retA rfl ldk42 rfl rfl rfl sR (hR.trans rfl)
theorem raddz_fn (x y : Int) (hx : bl x < room) (hy : bl y < room) : Fn Try.prog 71 [zA x, zA y] (zA (x + y)) := by
  obtain ⟨R, hR⟩ : ∃ R, R = zA (x + y) := ⟨_, rfl⟩
  have sR : Settled R := hR ▸ settled_zA _
  unfold bl room at hx hy
  have dx := digs_dig x.natAbs
  have dy := digs_dig y.natAbs
  have vx := digs_val x.natAbs
  have vy := digs_val y.natAbs
  have cmp := compared_fn _ _ (digs_canon x.natAbs) (digs_canon y.natAbs) (by omega)
  rw [vx, vy] at cmp
  rw [← hR]
  by_cases h : (x < 0 ↔ y < 0)
  · obtain ⟨L, l1, l2, l3, l4⟩ := rplus_fn _ _ dx dy (by omega) (by omega)
    have e : sgn (decide (x < 0)) (val L) = x + y := by
      rw [l2, vx, vy]; unfold sgn
      by_cases h2 : x < 0
      · rw [if_pos (decide_eq_true h2)]; omega
      · rw [if_neg (by simpa using h2)]; omega
    have c := normal_z (decide (x < 0)) L l1 (by omega)
    rw [e, ← hR] at c
    have fB : (decide (x < 0) == decide (y < 0)) = true := by simp [decide_eq_decide.2 h]
    refine Fn.intro (fn := Try.f71) Try.call71 Try.func71 rfl mixed 5 [] [] [] (by kernel_rfl) (Nat.le_of_ble_eq_true rfl) (by simp [settled_ints, settled_I, settled_fn0, settled_intss, settled_bool, settled_nil, settled_zA, settled_qA, settled_zR, settled_ofA, settled_int]) (vc_soundN 1000 ?_); simp (config := { maxSteps := 2000000 }) only [AS.start, ↓wPre, wPost, wFast, wCore, beq_self_eq_true, ite_true, ite_false, false_implies, true_implies, implies_true, eq_self, ne_eq, ↓reduceIte, reduceIte, Nat.reducePow, Nat.reduceLT, Nat.reduceLeDiff, Nat.reduceEqDiff, Nat.reduceAdd, Nat.reduceMul, Nat.reduceSub, Nat.reduceBEq, Nat.reduceDiv, Nat.reduceMod, reduceCtorEq, sl1, wFacts, zA, qA, qC, nb_tf, nb_ft, nb_tt, nb_ff]
    simp only [fB, ↓wPre, wPost, wFast, wCore, beq_self_eq_true, ite_true, ite_false, false_implies, true_implies, implies_true, eq_self, ne_eq, ↓reduceIte, reduceIte, Nat.reducePow, Nat.reduceLT, Nat.reduceLeDiff, Nat.reduceEqDiff, Nat.reduceAdd, Nat.reduceMul, Nat.reduceSub, Nat.reduceBEq, Nat.reduceDiv, Nat.reduceMod, reduceCtorEq, sl1, wFacts, zA, qA, qC, nb_tf, nb_ft, nb_tt, nb_ff]
    refine call_fn l4 rfl ?_
    simp only [↓wPre, wPost, wFast, wCore, beq_self_eq_true, ite_true, ite_false, false_implies, true_implies, implies_true, eq_self, ne_eq, ↓reduceIte, reduceIte, Nat.reducePow, Nat.reduceLT, Nat.reduceLeDiff, Nat.reduceEqDiff, Nat.reduceAdd, Nat.reduceMul, Nat.reduceSub, Nat.reduceBEq, Nat.reduceDiv, Nat.reduceMod, reduceCtorEq, sl1, wFacts, zA, qA, qC, nb_tf, nb_ft, nb_tt, nb_ff]
    refine call_fn c rfl ?_
    simp only [hR, ↓wPre, wPost, wFast, wCore, beq_self_eq_true, ite_true, ite_false, false_implies, true_implies, implies_true, eq_self, ne_eq, ↓reduceIte, reduceIte, Nat.reducePow, Nat.reduceLT, Nat.reduceLeDiff, Nat.reduceEqDiff, Nat.reduceAdd, Nat.reduceMul, Nat.reduceSub, Nat.reduceBEq, Nat.reduceDiv, Nat.reduceMod, reduceCtorEq, sl1, wFacts, zA, qA, qC, nb_tf, nb_ft, nb_tt, nb_ff]
    exact retA rfl ldk42 rfl rfl rfl sR (hR.trans rfl)
  have fB : (decide (x < 0) == decide (y < 0)) = false := by
    rw [beq_eq_false_iff_ne]; intro e; exact h (decide_eq_decide.1 e)
  by_cases hc : ((x.natAbs : Int) - y.natAbs).sign < 0
  · have hlt : (x.natAbs : Int) - y.natAbs < 0 := Int.sign_neg_iff.1 hc
    have hl : (digs x.natAbs).length ≤ (digs y.natAbs).length := bl_mono (show x.natAbs ≤ y.natAbs by omega)
    have cm := rminus_fn _ _ dy dx (by omega) hl (by omega)
    have vm := minusF_val dy dx hl (by omega)
    have e : sgn (decide (y < 0)) (val (minusF (digs y.natAbs) (digs x.natAbs))) = x + y := by
      rw [vm, vx, vy]; unfold sgn
      by_cases h2 : y < 0
      · rw [if_pos (decide_eq_true h2)]; omega
      · rw [if_neg (by simpa using h2)]; omega
    have c := normal_z (decide (y < 0)) _ (minusF_dig dy dx) (by unfold minusF; rw [tab_len]; omega)
    rw [e, ← hR] at c
    have fC : (((x.natAbs : Int) - y.natAbs).sign < 0) = True := eq_true hc
    refine Fn.intro (fn := Try.f71) Try.call71 Try.func71 rfl mixed 5 [] [] [] (by kernel_rfl) (Nat.le_of_ble_eq_true rfl) (by simp [settled_ints, settled_I, settled_fn0, settled_intss, settled_bool, settled_nil, settled_zA, settled_qA, settled_zR, settled_ofA, settled_int]) (vc_soundN 1000 ?_); simp (config := { maxSteps := 2000000 }) only [AS.start, ↓wPre, wPost, wFast, wCore, beq_self_eq_true, ite_true, ite_false, false_implies, true_implies, implies_true, eq_self, ne_eq, ↓reduceIte, reduceIte, Nat.reducePow, Nat.reduceLT, Nat.reduceLeDiff, Nat.reduceEqDiff, Nat.reduceAdd, Nat.reduceMul, Nat.reduceSub, Nat.reduceBEq, Nat.reduceDiv, Nat.reduceMod, reduceCtorEq, sl1, wFacts, zA, qA, qC, nb_tf, nb_ft, nb_tt, nb_ff]
    simp only [fB, ↓wPre, wPost, wFast, wCore, beq_self_eq_true, ite_true, ite_false, false_implies, true_implies, implies_true, eq_self, ne_eq, ↓reduceIte, reduceIte, Nat.reducePow, Nat.reduceLT, Nat.reduceLeDiff, Nat.reduceEqDiff, Nat.reduceAdd, Nat.reduceMul, Nat.reduceSub, Nat.reduceBEq, Nat.reduceDiv, Nat.reduceMod, reduceCtorEq, sl1, wFacts, zA, qA, qC, nb_tf, nb_ft, nb_tt, nb_ff]
    refine call_fn cmp rfl ?_
    simp only [fC, ↓wPre, wPost, wFast, wCore, beq_self_eq_true, ite_true, ite_false, false_implies, true_implies, implies_true, eq_self, ne_eq, ↓reduceIte, reduceIte, Nat.reducePow, Nat.reduceLT, Nat.reduceLeDiff, Nat.reduceEqDiff, Nat.reduceAdd, Nat.reduceMul, Nat.reduceSub, Nat.reduceBEq, Nat.reduceDiv, Nat.reduceMod, reduceCtorEq, sl1, wFacts, zA, qA, qC, nb_tf, nb_ft, nb_tt, nb_ff]
    refine call_fn cm rfl ?_
    simp only [↓wPre, wPost, wFast, wCore, beq_self_eq_true, ite_true, ite_false, false_implies, true_implies, implies_true, eq_self, ne_eq, ↓reduceIte, reduceIte, Nat.reducePow, Nat.reduceLT, Nat.reduceLeDiff, Nat.reduceEqDiff, Nat.reduceAdd, Nat.reduceMul, Nat.reduceSub, Nat.reduceBEq, Nat.reduceDiv, Nat.reduceMod, reduceCtorEq, sl1, wFacts, zA, qA, qC, nb_tf, nb_ft, nb_tt, nb_ff]
    refine call_fn c rfl ?_
    simp only [hR, ↓wPre, wPost, wFast, wCore, beq_self_eq_true, ite_true, ite_false, false_implies, true_implies, implies_true, eq_self, ne_eq, ↓reduceIte, reduceIte, Nat.reducePow, Nat.reduceLT, Nat.reduceLeDiff, Nat.reduceEqDiff, Nat.reduceAdd, Nat.reduceMul, Nat.reduceSub, Nat.reduceBEq, Nat.reduceDiv, Nat.reduceMod, reduceCtorEq, sl1, wFacts, zA, qA, qC, nb_tf, nb_ft, nb_tt, nb_ff]
    exact retA rfl ldk42 rfl rfl rfl sR (hR.trans rfl)
  · have hlt : ¬ (x.natAbs : Int) - y.natAbs < 0 := fun h => hc (Int.sign_neg_iff.2 h)
    have hl : (digs y.natAbs).length ≤ (digs x.natAbs).length := bl_mono (show y.natAbs ≤ x.natAbs by omega)
    have cm := rminus_fn _ _ dx dy (by omega) hl (by omega)
    have vm := minusF_val dx dy hl (by omega)
    have e : sgn (decide (x < 0)) (val (minusF (digs x.natAbs) (digs y.natAbs))) = x + y := by
      rw [vm, vx, vy]; unfold sgn
      by_cases h2 : x < 0
      · rw [if_pos (decide_eq_true h2)]; omega
      · rw [if_neg (by simpa using h2)]; omega
    have c := normal_z (decide (x < 0)) _ (minusF_dig dx dy) (by unfold minusF; rw [tab_len]; omega)
    rw [e, ← hR] at c
    have fC : (((x.natAbs : Int) - y.natAbs).sign < 0) = False := eq_false hc
    refine Fn.intro (fn := Try.f71) Try.call71 Try.func71 rfl mixed 5 [] [] [] (by kernel_rfl) (Nat.le_of_ble_eq_true rfl) (by simp [settled_ints, settled_I, settled_fn0, settled_intss, settled_bool, settled_nil, settled_zA, settled_qA, settled_zR, settled_ofA, settled_int]) (vc_soundN 1000 ?_); simp (config := { maxSteps := 2000000 }) only [AS.start, ↓wPre, wPost, wFast, wCore, beq_self_eq_true, ite_true, ite_false, false_implies, true_implies, implies_true, eq_self, ne_eq, ↓reduceIte, reduceIte, Nat.reducePow, Nat.reduceLT, Nat.reduceLeDiff, Nat.reduceEqDiff, Nat.reduceAdd, Nat.reduceMul, Nat.reduceSub, Nat.reduceBEq, Nat.reduceDiv, Nat.reduceMod, reduceCtorEq, sl1, wFacts, zA, qA, qC, nb_tf, nb_ft, nb_tt, nb_ff]
    simp only [fB, ↓wPre, wPost, wFast, wCore, beq_self_eq_true, ite_true, ite_false, false_implies, true_implies, implies_true, eq_self, ne_eq, ↓reduceIte, reduceIte, Nat.reducePow, Nat.reduceLT, Nat.reduceLeDiff, Nat.reduceEqDiff, Nat.reduceAdd, Nat.reduceMul, Nat.reduceSub, Nat.reduceBEq, Nat.reduceDiv, Nat.reduceMod, reduceCtorEq, sl1, wFacts, zA, qA, qC, nb_tf, nb_ft, nb_tt, nb_ff]
    refine call_fn cmp rfl ?_
    simp only [fC, ↓wPre, wPost, wFast, wCore, beq_self_eq_true, ite_true, ite_false, false_implies, true_implies, implies_true, eq_self, ne_eq, ↓reduceIte, reduceIte, Nat.reducePow, Nat.reduceLT, Nat.reduceLeDiff, Nat.reduceEqDiff, Nat.reduceAdd, Nat.reduceMul, Nat.reduceSub, Nat.reduceBEq, Nat.reduceDiv, Nat.reduceMod, reduceCtorEq, sl1, wFacts, zA, qA, qC, nb_tf, nb_ft, nb_tt, nb_ff]
    refine call_fn cm rfl ?_
    simp only [↓wPre, wPost, wFast, wCore, beq_self_eq_true, ite_true, ite_false, false_implies, true_implies, implies_true, eq_self, ne_eq, ↓reduceIte, reduceIte, Nat.reducePow, Nat.reduceLT, Nat.reduceLeDiff, Nat.reduceEqDiff, Nat.reduceAdd, Nat.reduceMul, Nat.reduceSub, Nat.reduceBEq, Nat.reduceDiv, Nat.reduceMod, reduceCtorEq, sl1, wFacts, zA, qA, qC, nb_tf, nb_ft, nb_tt, nb_ff]
    refine call_fn c rfl ?_
    simp only [hR, ↓wPre, wPost, wFast, wCore, beq_self_eq_true, ite_true, ite_false, false_implies, true_implies, implies_true, eq_self, ne_eq, ↓reduceIte, reduceIte, Nat.reducePow, Nat.reduceLT, Nat.reduceLeDiff, Nat.reduceEqDiff, Nat.reduceAdd, Nat.reduceMul, Nat.reduceSub, Nat.reduceBEq, Nat.reduceDiv, Nat.reduceMod, reduceCtorEq, sl1, wFacts, zA, qA, qC, nb_tf, nb_ft, nb_tt, nb_ff]
    exact retA rfl ldk42 rfl rfl rfl sR (hR.trans rfl)
end
end Go.Ab.N

