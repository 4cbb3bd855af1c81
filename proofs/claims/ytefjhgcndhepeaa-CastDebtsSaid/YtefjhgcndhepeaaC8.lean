/- Contracts of functions of these chapters, for every argument that fits, and what they need. -/
import Derived.Test.YtefjhgcndhepeaaC7
import Derived.Test.YtefjhgcndhepeaaAb4
set_option linter.unusedSimpArgs false
set_option linter.unusedVariables false
namespace Go.Ab.N
open Go Go.RowKit Go.Proofs
noncomputable section
set_option maxRecDepth 10000
set_option maxHeartbeats 2000000
set_option linter.unusedSimpArgs false
set_option linter.unusedVariables false
open Classical

theorem samez_fn (n1 n2 : Bool) (a b : List Int) (la : a.length < 4611686018427387904) (lb : b.length < 4611686018427387904) : Fn Try.prog 24 [zR n1 a, zR n2 b] (.bool (decide (n1 = n2) && decide (a = b))) := by
  obtain ⟨V, hV⟩ : ∃ V, V = (decide (n1 = n2) && decide (a = b)) := ⟨_, rfl⟩
  rw [← hV]
  have fin : ∀ {s : AS} {v : Bool}, s.get 4 = .bool v → v = V → RetOk (envP Try.prog Try.f24 [] [] (.bool V)) s := fun h e => ret1E rfl h (settled_bool _) (by rw [e])
  refine Fn.intro (fn := Try.f24) Try.call24 Try.func24 rfl mixed 6 [] [] [] (by kernel_rfl) (Nat.le_of_ble_eq_true rfl) (by simp [settled_zR]) (vc_soundN 1000 ?_)
  by_cases hn : n1 = n2
  rotate_left
  · have hb : (!(n1 == n2)) = true := by simp [hn]
    simp only [AS.start, zR, hb, ↓wPre, wPost, wFast, wCore, beq_self_eq_true, ite_true, ite_false, false_implies, true_implies, implies_true, eq_self, ne_eq, ↓reduceIte, reduceIte, Nat.reducePow, Nat.reduceLT, Nat.reduceLeDiff, Nat.reduceEqDiff, Nat.reduceAdd, Nat.reduceMul, Nat.reduceSub, Nat.reduceBEq, Nat.reduceDiv, Nat.reduceMod, reduceCtorEq, sl1, wFacts, zA, qA, qC, nb_tf, nb_ft, nb_tt, nb_ff]
    exact fin rfl (by rw [hV, decide_eq_false hn]; rfl)
  subst hn
  have hb : (!(n1 == n1)) = false := by simp
  by_cases hl : a.length = b.length
  rotate_left
  · have f1 : ((a.length : Int) = b.length) = False := eq_false (by omega)
    have f1' : (a.length = b.length) = False := eq_false hl
    simp only [AS.start, zR, hb, f1, f1', ↓wPre, wPost, wFast, wCore, beq_self_eq_true, ite_true, ite_false, false_implies, true_implies, implies_true, eq_self, ne_eq, ↓reduceIte, reduceIte, Nat.reducePow, Nat.reduceLT, Nat.reduceLeDiff, Nat.reduceEqDiff, Nat.reduceAdd, Nat.reduceMul, Nat.reduceSub, Nat.reduceBEq, Nat.reduceDiv, Nat.reduceMod, reduceCtorEq, sl1, wFacts, zA, qA, qC, nb_tf, nb_ft, nb_tt, nb_ff]
    exact fin rfl (by rw [hV, decide_eq_false (show ¬ a = b from fun e => hl (by rw [e])), Bool.and_false])
  have f1 : ((a.length : Int) = b.length) = True := eq_true (by omega)
  have f1' : (a.length = b.length) = True := eq_true hl
  simp only [AS.start, zR, hb, f1, f1', ↓wPre, wPost, wFast, wCore, beq_self_eq_true, ite_true, ite_false, false_implies, true_implies, implies_true, eq_self, ne_eq, ↓reduceIte, reduceIte, Nat.reducePow, Nat.reduceLT, Nat.reduceLeDiff, Nat.reduceEqDiff, Nat.reduceAdd, Nat.reduceMul, Nat.reduceSub, Nat.reduceBEq, Nat.reduceDiv, Nat.reduceMod, reduceCtorEq, sl1, wFacts, zA, qA, qC, nb_tf, nb_ft, nb_tt, nb_ff]
  refine run_loop (fun j : Nat => ⟨6, [], [.any, .any, .ref 0 0 0, .ref 1 0 0, .any, I j], [], [.row 0 2 (ofL [.bool n1, ints a]), .row 0 2 (ofL [.bool n1, ints b])]⟩) (fun j => j ≤ a.length ∧ ∀ i, i < j → a.getD i 0 = b.getD i 0) (fun j => a.length - j) 0 ⟨by omega, by omega⟩
    (sub_mk rfl (by simp [subL, ints, sl1, I]) (by simp [subT]) rfl) ?_
  rintro j ⟨hj, hno⟩ next
  have w1 := wj j (by omega)
  by_cases hj2 : j < a.length
  · have f2 : ((j : Int) < a.length) = True := eq_true (by omega)
    have f3 : (j < a.length) = True := eq_true hj2
    have f4 : (j < b.length) = True := eq_true (by omega)
    refine vc_soundN 1000 ?_
    simp only [w1, f2, f3, f4, ↓wPre, wPost, wFast, wCore, beq_self_eq_true, ite_true, ite_false, false_implies, true_implies, implies_true, eq_self, ne_eq, ↓reduceIte, reduceIte, Nat.reducePow, Nat.reduceLT, Nat.reduceLeDiff, Nat.reduceEqDiff, Nat.reduceAdd, Nat.reduceMul, Nat.reduceSub, Nat.reduceBEq, Nat.reduceDiv, Nat.reduceMod, reduceCtorEq, sl1, wFacts, zA, qA, qC, nb_tf, nb_ft, nb_tt, nb_ff]
    refine ⟨fun h => fin rfl ?_, fun h => next (j + 1) _ ⟨by omega, fun i hi => ?_⟩ (by omega) (sub_mk rfl (by simp [subL, ints, sl1, I]) (by simp [subT]) rfl)⟩
    · rw [hV, decide_eq_false (show ¬ a = b from fun e => h (by rw [e])), Bool.and_false]
    · by_cases e : i = j
      · rw [e]; exact h
      · exact hno i (by omega)
  · have f2 : ((j : Int) < a.length) = False := eq_false (by omega)
    have f3 : (j < a.length) = False := eq_false hj2
    refine vc_soundN 1000 ?_
    simp only [w1, f2, f3, ↓wPre, wPost, wFast, wCore, beq_self_eq_true, ite_true, ite_false, false_implies, true_implies, implies_true, eq_self, ne_eq, ↓reduceIte, reduceIte, Nat.reducePow, Nat.reduceLT, Nat.reduceLeDiff, Nat.reduceEqDiff, Nat.reduceAdd, Nat.reduceMul, Nat.reduceSub, Nat.reduceBEq, Nat.reduceDiv, Nat.reduceMod, reduceCtorEq, sl1, wFacts, zA, qA, qC, nb_tf, nb_ft, nb_tt, nb_ff]
    refine fin rfl ?_
    have : a = b := List.ext_getElem hl fun i h1 h2 => by
      have := hno i (by omega)
      rw [List.getD_eq_getElem?_getD, List.getElem?_eq_getElem h1, List.getD_eq_getElem?_getD, List.getElem?_eq_getElem h2] at this
      exact this
    rw [hV, decide_eq_true this]; simp
theorem same04_fn (x y : RQ) (hx : x.sz < 4611686018427387904) (hy : y.sz < 4611686018427387904) : Fn Try.prog 13 [x.A, y.A] (.bool (decide (x = y))) := by
  have c1 := samez_fn x.pn y.pn x.pd y.pd (by unfold RQ.sz at hx; omega) (by unfold RQ.sz at hy; omega)
  have c2 := samez_fn x.qn y.qn x.qd y.qd (by unfold RQ.sz at hx; omega) (by unfold RQ.sz at hy; omega)
  obtain ⟨V, hV⟩ : ∃ V, V = decide (x = y) := ⟨_, rfl⟩
  rw [← hV]
  have e := RQ.eq_iff x y
  obtain ⟨B1, hB1⟩ : ∃ B, B = (decide (x.pn = y.pn) && decide (x.pd = y.pd)) := ⟨_, rfl⟩
  obtain ⟨B2, hB2⟩ : ∃ B, B = (decide (x.qn = y.qn) && decide (x.qd = y.qd)) := ⟨_, rfl⟩
  rw [← hB1] at c1
  rw [← hB2] at c2
  have hVB : V = (B1 && B2) := by
    rw [hV, hB1, hB2]
    simp only [e, Bool.decide_and]
  refine Fn.intro (fn := Try.f13) Try.call13 Try.func13 rfl mixed 5 [] [] [] (by kernel_rfl) (Nat.le_of_ble_eq_true rfl) (by simp [settled_RQ]) (vc_soundN 1000 ?_)
  simp only [AS.start, RQ.A, RQ.L, ↓wPre, wPost, wFast, wCore, beq_self_eq_true, ite_true, ite_false, false_implies, true_implies, implies_true, eq_self, ne_eq, ↓reduceIte, reduceIte, Nat.reducePow, Nat.reduceLT, Nat.reduceLeDiff, Nat.reduceEqDiff, Nat.reduceAdd, Nat.reduceMul, Nat.reduceSub, Nat.reduceBEq, Nat.reduceDiv, Nat.reduceMod, reduceCtorEq, sl1, wFacts, zA, qA, qC, nb_tf, nb_ft, nb_tt, nb_ff]
  refine call_fn c1 rfl ?_
  cases B1
  · simp only [↓wPre, wPost, wFast, wCore, beq_self_eq_true, ite_true, ite_false, false_implies, true_implies, implies_true, eq_self, ne_eq, ↓reduceIte, reduceIte, Nat.reducePow, Nat.reduceLT, Nat.reduceLeDiff, Nat.reduceEqDiff, Nat.reduceAdd, Nat.reduceMul, Nat.reduceSub, Nat.reduceBEq, Nat.reduceDiv, Nat.reduceMod, reduceCtorEq, sl1, wFacts, zA, qA, qC, nb_tf, nb_ft, nb_tt, nb_ff]
    exact ret1E (v := .bool false) rfl rfl (settled_bool _) (by rw [hVB]; rfl)
  · simp only [↓wPre, wPost, wFast, wCore, beq_self_eq_true, ite_true, ite_false, false_implies, true_implies, implies_true, eq_self, ne_eq, ↓reduceIte, reduceIte, Nat.reducePow, Nat.reduceLT, Nat.reduceLeDiff, Nat.reduceEqDiff, Nat.reduceAdd, Nat.reduceMul, Nat.reduceSub, Nat.reduceBEq, Nat.reduceDiv, Nat.reduceMod, reduceCtorEq, sl1, wFacts, zA, qA, qC, nb_tf, nb_ft, nb_tt, nb_ff]
    refine call_fn c2 rfl ?_
    simp only [↓wPre, wPost, wFast, wCore, beq_self_eq_true, ite_true, ite_false, false_implies, true_implies, implies_true, eq_self, ne_eq, ↓reduceIte, reduceIte, Nat.reducePow, Nat.reduceLT, Nat.reduceLeDiff, Nat.reduceEqDiff, Nat.reduceAdd, Nat.reduceMul, Nat.reduceSub, Nat.reduceBEq, Nat.reduceDiv, Nat.reduceMod, reduceCtorEq, sl1, wFacts, zA, qA, qC, nb_tf, nb_ft, nb_tt, nb_ff]
    exact ret1E (v := .bool B2) rfl rfl (settled_bool _) (by rw [hVB]; rfl)
theorem same04Q_fn (a b : Rat) (ha : qb a ≤ rm) (hb : qb b ≤ rm) : Fn Try.prog 13 [qA a, qA b] (.bool (decide (a = b))) := by
  unfold rm at ha hb
  have h1 := RQ.of_sz a
  have h2 := RQ.of_sz b
  have := same04_fn (RQ.of a) (RQ.of b) (by omega) (by omega)
  rw [show decide (RQ.of a = RQ.of b) = decide (a = b) from decide_eq_decide.2 ⟨RQ.of_inj, fun h => by rw [h]⟩] at this
  exact this
theorem one04_fn (neg : Bool) (d : List Int) : Fn Try.prog 43 [zR neg d] (.bool (!neg && decide (d = [1]))) := by
  have hone : (d = [1]) ↔ d.length = 1 ∧ d.getD 0 0 = 1 := by
    constructor
    · rintro rfl; exact ⟨rfl, rfl⟩
    · rintro ⟨h1, h2⟩
      obtain ⟨x, rfl⟩ := List.length_eq_one_iff.1 h1
      rw [show x = 1 from h2]
  obtain ⟨V, hV⟩ : ∃ V, V = (!neg && decide (d = [1])) := ⟨_, rfl⟩
  rw [← hV]
  have fin : ∀ {s : AS} {v : Bool}, s.get 2 = .bool v → v = V → RetOk (envP Try.prog Try.f43 [] [] (.bool V)) s := fun h e => ret1E rfl h (settled_bool _) (by rw [e])
  by_cases h0 : d.length = 1
  · have f1 : (d.length = 1) = True := eq_true h0
    have f2 : ((d.length : Int) = 1) = True := eq_true (by omega)
    have f3 : (0 < d.length) = True := eq_true (by omega)
    have f4 : (0 < (d.length : Int)) = True := eq_true (by omega)
    refine Fn.intro (fn := Try.f43) Try.call43 Try.func43 rfl mixed 3 [] [] [] (by kernel_rfl) (Nat.le_of_ble_eq_true rfl) (by simp [settled_zR]) (vc_soundN 1000 ?_)
    cases neg
    all_goals
      simp only [AS.start, zR, f1, f2, f3, f4, ↓wPre, wPost, wFast, wCore, beq_self_eq_true, ite_true, ite_false, false_implies, true_implies, implies_true, eq_self, ne_eq, ↓reduceIte, reduceIte, Nat.reducePow, Nat.reduceLT, Nat.reduceLeDiff, Nat.reduceEqDiff, Nat.reduceAdd, Nat.reduceMul, Nat.reduceSub, Nat.reduceBEq, Nat.reduceDiv, Nat.reduceMod, reduceCtorEq, sl1, wFacts, zA, qA, qC, nb_tf, nb_ft, nb_tt, nb_ff]
      exact fin rfl (by rw [hV]; simp [hone, h0])
  · have f1 : (d.length = 1) = False := eq_false h0
    have f2 : ((d.length : Int) = 1) = False := eq_false (by omega)
    have hne : ¬ d = [1] := fun h => h0 (hone.1 h).1
    refine Fn.intro (fn := Try.f43) Try.call43 Try.func43 rfl mixed 3 [] [] [] (by kernel_rfl) (Nat.le_of_ble_eq_true rfl) (by simp [settled_zR]) (vc_soundN 1000 ?_)
    cases neg
    all_goals
      simp only [AS.start, zR, f1, f2, ↓wPre, wPost, wFast, wCore, beq_self_eq_true, ite_true, ite_false, false_implies, true_implies, implies_true, eq_self, ne_eq, ↓reduceIte, reduceIte, Nat.reducePow, Nat.reduceLT, Nat.reduceLeDiff, Nat.reduceEqDiff, Nat.reduceAdd, Nat.reduceMul, Nat.reduceSub, Nat.reduceBEq, Nat.reduceDiv, Nat.reduceMod, reduceCtorEq, sl1, wFacts, zA, qA, qC, nb_tf, nb_ft, nb_tt, nb_ff]
      exact fin rfl (by rw [hV]; simp [hne])
theorem onez_fn (z : Int) : Fn Try.prog 43 [zA z] (.bool (decide (z = 1))) := by
  have := one04_fn (decide (z < 0)) (digs z.natAbs)
  rw [unit_z] at this; exact this
theorem make04_fn (p q : Int) (hp : bl p < 1000000000) (hq : bl q < 1000000000) : Fn Try.prog 22 [zA p, zA q] (qA (Rat.divInt p q)) := by
  obtain ⟨R, hR⟩ : ∃ R, R = qA (Rat.divInt p q) := ⟨_, rfl⟩
  have sR : Settled R := hR ▸ settled_qA _
  have zp : (((digs p.natAbs).length : Int) = 0) = (p = 0) := propext (by have := @digs_len_zero p.natAbs; omega)
  have zq : (((digs q.natAbs).length : Int) = 0) = (q = 0) := propext (by have := @digs_len_zero q.natAbs; omega)
  have z0 : p = 0 ∨ q = 0 → R = .agg [.bool false, ints [], .bool false, ints []] := by
    intro h
    rw [hR, ← qA_zero]
    rcases h with rfl | rfl
    · rw [Rat.zero_divInt]
    · rw [Rat.divInt_zero]
  rw [← hR]
  by_cases hq0 : q = 0
  · have f1 : (q = 0) = True := eq_true hq0
    refine Fn.intro (fn := Try.f22) Try.call22 Try.func22 rfl mixed 10 [] [] [] (by kernel_rfl) (Nat.le_of_ble_eq_true rfl) (by simp [settled_ints, settled_I, settled_fn0, settled_intss, settled_bool, settled_nil, settled_zA, settled_qA, settled_zR, settled_ofA, settled_int]) (vc_soundN 1000 ?_); simp (config := { maxSteps := 2000000 }) only [AS.start, ↓wPre, wPost, wFast, wCore, beq_self_eq_true, ite_true, ite_false, false_implies, true_implies, implies_true, eq_self, ne_eq, ↓reduceIte, reduceIte, Nat.reducePow, Nat.reduceLT, Nat.reduceLeDiff, Nat.reduceEqDiff, Nat.reduceAdd, Nat.reduceMul, Nat.reduceSub, Nat.reduceBEq, Nat.reduceDiv, Nat.reduceMod, reduceCtorEq, sl1, wFacts, zA, qA, qC, nb_tf, nb_ft, nb_tt, nb_ff]
    simp only [zq, f1, ↓wPre, wPost, wFast, wCore, beq_self_eq_true, ite_true, ite_false, false_implies, true_implies, implies_true, eq_self, ne_eq, ↓reduceIte, reduceIte, Nat.reducePow, Nat.reduceLT, Nat.reduceLeDiff, Nat.reduceEqDiff, Nat.reduceAdd, Nat.reduceMul, Nat.reduceSub, Nat.reduceBEq, Nat.reduceDiv, Nat.reduceMod, reduceCtorEq, sl1, wFacts, zA, qA, qC, nb_tf, nb_ft, nb_tt, nb_ff]
    exact retRefE rfl ldk44 rfl rfl rfl (z0 (.inr hq0)) sR ⟨Weak.rfl' _, weak_emp _ _, Weak.rfl' _, weak_emp _ _, trivial⟩
  have f1 : (q = 0) = False := eq_false hq0
  by_cases hp0 : p = 0
  · have f3 : (p = 0) = True := eq_true hp0
    refine Fn.intro (fn := Try.f22) Try.call22 Try.func22 rfl mixed 10 [] [] [] (by kernel_rfl) (Nat.le_of_ble_eq_true rfl) (by simp [settled_ints, settled_I, settled_fn0, settled_intss, settled_bool, settled_nil, settled_zA, settled_qA, settled_zR, settled_ofA, settled_int]) (vc_soundN 1000 ?_); simp (config := { maxSteps := 2000000 }) only [AS.start, ↓wPre, wPost, wFast, wCore, beq_self_eq_true, ite_true, ite_false, false_implies, true_implies, implies_true, eq_self, ne_eq, ↓reduceIte, reduceIte, Nat.reducePow, Nat.reduceLT, Nat.reduceLeDiff, Nat.reduceEqDiff, Nat.reduceAdd, Nat.reduceMul, Nat.reduceSub, Nat.reduceBEq, Nat.reduceDiv, Nat.reduceMod, reduceCtorEq, sl1, wFacts, zA, qA, qC, nb_tf, nb_ft, nb_tt, nb_ff]
    simp only [zp, zq, f1, f3, ↓wPre, wPost, wFast, wCore, beq_self_eq_true, ite_true, ite_false, false_implies, true_implies, implies_true, eq_self, ne_eq, ↓reduceIte, reduceIte, Nat.reducePow, Nat.reduceLT, Nat.reduceLeDiff, Nat.reduceEqDiff, Nat.reduceAdd, Nat.reduceMul, Nat.reduceSub, Nat.reduceBEq, Nat.reduceDiv, Nat.reduceMod, reduceCtorEq, sl1, wFacts, zA, qA, qC, nb_tf, nb_ft, nb_tt, nb_ff]
    exact retRefE rfl ldk44 rfl rfl rfl (z0 (.inl hp0)) sR ⟨Weak.rfl' _, weak_emp _ _, Weak.rfl' _, weak_emp _ _, trivial⟩
  have f3 : (p = 0) = False := eq_false hp0
  have cg := rgcdz_fn p q hp hq
  obtain ⟨g, hg⟩ : ∃ g : Int, g = Int.gcd p q := ⟨_, rfl⟩
  have hg0 : 0 < Int.gcd p q := Int.gcd_pos_of_ne_zero_right _ hq0
  have hgq : bl g ≤ bl q := bl_mono (by
    have := Nat.le_of_dvd (by omega) (Int.gcd_dvd_natAbs_right p q)
    omega)
  rw [← hg] at cg
  obtain ⟨d1, d2, d3⟩ := divInt_of_parts p q hq0 g hg
  have c1 := rdivz_fn p g hp (by omega) (by omega)
  have c2 := rdivz_fn q g hq (by omega) (by omega)
  obtain ⟨u, hu⟩ : ∃ u, u = p / g := ⟨_, rfl⟩
  obtain ⟨v, hv⟩ : ∃ v, v = q / g := ⟨_, rfl⟩
  have hub : bl u ≤ bl p := bl_mono (by rw [hu]; exact Int.natAbs_ediv_le_natAbs p g)
  have hvb : bl v ≤ bl q := bl_mono (by rw [hv]; exact Int.natAbs_ediv_le_natAbs q g)
  rw [← hu] at c1 d1 d2
  rw [← hv] at c2 d1 d2 d3
  obtain ⟨e1, e2⟩ := divInt_low u v d3 d2
  have key : ∀ p' q' : Int, p' = v.sign * u → q' = v.natAbs → (q' = 1 → R = .agg [.bool (decide (p' < 0)), ints (digs p'.natAbs), .bool false, ints []]) ∧ (¬ q' = 1 → R = .agg [.bool (decide (p' < 0)), ints (digs p'.natAbs), .bool false, ints (digs q'.natAbs)]) := by
    intro p' q' hp' hq'
    constructor
    · intro h
      rw [hR, ← d1, qA_int (by omega), e1, hp']
    · intro h
      rw [hR, ← d1, qA_frac (by omega), e1, hp', e2, hq', Int.natAbs_natCast]
  by_cases hneg : v < 0
  · have g1 : (v < 0) = True := eq_true hneg
    obtain ⟨k1, k2⟩ := key (-u) (-v) (by rw [Int.sign_eq_neg_one_of_neg hneg]; omega) (by omega)
    have co := onez_fn (-v)
    have cn1 := rnegz_fn u (by unfold room; omega)
    have cn2 := rnegz_fn v (by unfold room; omega)
    rw [zA_lt hneg] at cn2 c2
    have f5 : decide (-v < 0) = false := decide_eq_false (by omega)
    by_cases h1 : -v = 1
    · simp only [h1, decide_true] at co
      have hk := k1 h1
      rw [h1] at cn2
      refine Fn.intro (fn := Try.f22) Try.call22 Try.func22 rfl mixed 10 [] [] [] (by kernel_rfl) (Nat.le_of_ble_eq_true rfl) (by simp [settled_ints, settled_I, settled_fn0, settled_intss, settled_bool, settled_nil, settled_zA, settled_qA, settled_zR, settled_ofA, settled_int]) (vc_soundN 1000 ?_); simp (config := { maxSteps := 2000000 }) only [AS.start, ↓wPre, wPost, wFast, wCore, beq_self_eq_true, ite_true, ite_false, false_implies, true_implies, implies_true, eq_self, ne_eq, ↓reduceIte, reduceIte, Nat.reducePow, Nat.reduceLT, Nat.reduceLeDiff, Nat.reduceEqDiff, Nat.reduceAdd, Nat.reduceMul, Nat.reduceSub, Nat.reduceBEq, Nat.reduceDiv, Nat.reduceMod, reduceCtorEq, sl1, wFacts, zA, qA, qC, nb_tf, nb_ft, nb_tt, nb_ff]
      simp only [zp, zq, f1, f3, ↓wPre, wPost, wFast, wCore, beq_self_eq_true, ite_true, ite_false, false_implies, true_implies, implies_true, eq_self, ne_eq, ↓reduceIte, reduceIte, Nat.reducePow, Nat.reduceLT, Nat.reduceLeDiff, Nat.reduceEqDiff, Nat.reduceAdd, Nat.reduceMul, Nat.reduceSub, Nat.reduceBEq, Nat.reduceDiv, Nat.reduceMod, reduceCtorEq, sl1, wFacts, zA, qA, qC, nb_tf, nb_ft, nb_tt, nb_ff]
      refine call_fn cg rfl ?_
      simp only [↓wPre, wPost, wFast, wCore, beq_self_eq_true, ite_true, ite_false, false_implies, true_implies, implies_true, eq_self, ne_eq, ↓reduceIte, reduceIte, Nat.reducePow, Nat.reduceLT, Nat.reduceLeDiff, Nat.reduceEqDiff, Nat.reduceAdd, Nat.reduceMul, Nat.reduceSub, Nat.reduceBEq, Nat.reduceDiv, Nat.reduceMod, reduceCtorEq, sl1, wFacts, zA, qA, qC, nb_tf, nb_ft, nb_tt, nb_ff]
      refine call_fn c1 rfl ?_
      simp only [↓wPre, wPost, wFast, wCore, beq_self_eq_true, ite_true, ite_false, false_implies, true_implies, implies_true, eq_self, ne_eq, ↓reduceIte, reduceIte, Nat.reducePow, Nat.reduceLT, Nat.reduceLeDiff, Nat.reduceEqDiff, Nat.reduceAdd, Nat.reduceMul, Nat.reduceSub, Nat.reduceBEq, Nat.reduceDiv, Nat.reduceMod, reduceCtorEq, sl1, wFacts, zA, qA, qC, nb_tf, nb_ft, nb_tt, nb_ff]
      refine call_fn c2 rfl ?_
      simp only [↓wPre, wPost, wFast, wCore, beq_self_eq_true, ite_true, ite_false, false_implies, true_implies, implies_true, eq_self, ne_eq, ↓reduceIte, reduceIte, Nat.reducePow, Nat.reduceLT, Nat.reduceLeDiff, Nat.reduceEqDiff, Nat.reduceAdd, Nat.reduceMul, Nat.reduceSub, Nat.reduceBEq, Nat.reduceDiv, Nat.reduceMod, reduceCtorEq, sl1, wFacts, zA, qA, qC, nb_tf, nb_ft, nb_tt, nb_ff]
      refine call_fn cn1 rfl ?_
      simp only [↓wPre, wPost, wFast, wCore, beq_self_eq_true, ite_true, ite_false, false_implies, true_implies, implies_true, eq_self, ne_eq, ↓reduceIte, reduceIte, Nat.reducePow, Nat.reduceLT, Nat.reduceLeDiff, Nat.reduceEqDiff, Nat.reduceAdd, Nat.reduceMul, Nat.reduceSub, Nat.reduceBEq, Nat.reduceDiv, Nat.reduceMod, reduceCtorEq, sl1, wFacts, zA, qA, qC, nb_tf, nb_ft, nb_tt, nb_ff]
      refine call_fn cn2 rfl ?_
      simp only [↓wPre, wPost, wFast, wCore, beq_self_eq_true, ite_true, ite_false, false_implies, true_implies, implies_true, eq_self, ne_eq, ↓reduceIte, reduceIte, Nat.reducePow, Nat.reduceLT, Nat.reduceLeDiff, Nat.reduceEqDiff, Nat.reduceAdd, Nat.reduceMul, Nat.reduceSub, Nat.reduceBEq, Nat.reduceDiv, Nat.reduceMod, reduceCtorEq, sl1, wFacts, zA, qA, qC, nb_tf, nb_ft, nb_tt, nb_ff]
      refine call_fn co rfl ?_
      simp only [↓wPre, wPost, wFast, wCore, beq_self_eq_true, ite_true, ite_false, false_implies, true_implies, implies_true, eq_self, ne_eq, ↓reduceIte, reduceIte, Nat.reducePow, Nat.reduceLT, Nat.reduceLeDiff, Nat.reduceEqDiff, Nat.reduceAdd, Nat.reduceMul, Nat.reduceSub, Nat.reduceBEq, Nat.reduceDiv, Nat.reduceMod, reduceCtorEq, sl1, wFacts, zA, qA, qC, nb_tf, nb_ft, nb_tt, nb_ff]
      exact retRefE rfl ldk44 rfl rfl rfl hk sR ⟨Weak.rfl' _, Weak.rfl' _, Weak.rfl' _, weak_emp _ _, trivial⟩
    · simp only [h1, decide_false] at co
      have hk := k2 h1
      refine Fn.intro (fn := Try.f22) Try.call22 Try.func22 rfl mixed 10 [] [] [] (by kernel_rfl) (Nat.le_of_ble_eq_true rfl) (by simp [settled_ints, settled_I, settled_fn0, settled_intss, settled_bool, settled_nil, settled_zA, settled_qA, settled_zR, settled_ofA, settled_int]) (vc_soundN 1000 ?_); simp (config := { maxSteps := 2000000 }) only [AS.start, ↓wPre, wPost, wFast, wCore, beq_self_eq_true, ite_true, ite_false, false_implies, true_implies, implies_true, eq_self, ne_eq, ↓reduceIte, reduceIte, Nat.reducePow, Nat.reduceLT, Nat.reduceLeDiff, Nat.reduceEqDiff, Nat.reduceAdd, Nat.reduceMul, Nat.reduceSub, Nat.reduceBEq, Nat.reduceDiv, Nat.reduceMod, reduceCtorEq, sl1, wFacts, zA, qA, qC, nb_tf, nb_ft, nb_tt, nb_ff]
      simp only [zp, zq, f1, f3, ↓wPre, wPost, wFast, wCore, beq_self_eq_true, ite_true, ite_false, false_implies, true_implies, implies_true, eq_self, ne_eq, ↓reduceIte, reduceIte, Nat.reducePow, Nat.reduceLT, Nat.reduceLeDiff, Nat.reduceEqDiff, Nat.reduceAdd, Nat.reduceMul, Nat.reduceSub, Nat.reduceBEq, Nat.reduceDiv, Nat.reduceMod, reduceCtorEq, sl1, wFacts, zA, qA, qC, nb_tf, nb_ft, nb_tt, nb_ff]
      refine call_fn cg rfl ?_
      simp only [↓wPre, wPost, wFast, wCore, beq_self_eq_true, ite_true, ite_false, false_implies, true_implies, implies_true, eq_self, ne_eq, ↓reduceIte, reduceIte, Nat.reducePow, Nat.reduceLT, Nat.reduceLeDiff, Nat.reduceEqDiff, Nat.reduceAdd, Nat.reduceMul, Nat.reduceSub, Nat.reduceBEq, Nat.reduceDiv, Nat.reduceMod, reduceCtorEq, sl1, wFacts, zA, qA, qC, nb_tf, nb_ft, nb_tt, nb_ff]
      refine call_fn c1 rfl ?_
      simp only [↓wPre, wPost, wFast, wCore, beq_self_eq_true, ite_true, ite_false, false_implies, true_implies, implies_true, eq_self, ne_eq, ↓reduceIte, reduceIte, Nat.reducePow, Nat.reduceLT, Nat.reduceLeDiff, Nat.reduceEqDiff, Nat.reduceAdd, Nat.reduceMul, Nat.reduceSub, Nat.reduceBEq, Nat.reduceDiv, Nat.reduceMod, reduceCtorEq, sl1, wFacts, zA, qA, qC, nb_tf, nb_ft, nb_tt, nb_ff]
      refine call_fn c2 rfl ?_
      simp only [↓wPre, wPost, wFast, wCore, beq_self_eq_true, ite_true, ite_false, false_implies, true_implies, implies_true, eq_self, ne_eq, ↓reduceIte, reduceIte, Nat.reducePow, Nat.reduceLT, Nat.reduceLeDiff, Nat.reduceEqDiff, Nat.reduceAdd, Nat.reduceMul, Nat.reduceSub, Nat.reduceBEq, Nat.reduceDiv, Nat.reduceMod, reduceCtorEq, sl1, wFacts, zA, qA, qC, nb_tf, nb_ft, nb_tt, nb_ff]
      refine call_fn cn1 rfl ?_
      simp only [↓wPre, wPost, wFast, wCore, beq_self_eq_true, ite_true, ite_false, false_implies, true_implies, implies_true, eq_self, ne_eq, ↓reduceIte, reduceIte, Nat.reducePow, Nat.reduceLT, Nat.reduceLeDiff, Nat.reduceEqDiff, Nat.reduceAdd, Nat.reduceMul, Nat.reduceSub, Nat.reduceBEq, Nat.reduceDiv, Nat.reduceMod, reduceCtorEq, sl1, wFacts, zA, qA, qC, nb_tf, nb_ft, nb_tt, nb_ff]
      refine call_fn cn2 rfl ?_
      simp only [↓wPre, wPost, wFast, wCore, beq_self_eq_true, ite_true, ite_false, false_implies, true_implies, implies_true, eq_self, ne_eq, ↓reduceIte, reduceIte, Nat.reducePow, Nat.reduceLT, Nat.reduceLeDiff, Nat.reduceEqDiff, Nat.reduceAdd, Nat.reduceMul, Nat.reduceSub, Nat.reduceBEq, Nat.reduceDiv, Nat.reduceMod, reduceCtorEq, sl1, wFacts, zA, qA, qC, nb_tf, nb_ft, nb_tt, nb_ff]
      refine call_fn co rfl ?_
      simp only [↓wPre, wPost, wFast, wCore, beq_self_eq_true, ite_true, ite_false, false_implies, true_implies, implies_true, eq_self, ne_eq, ↓reduceIte, reduceIte, Nat.reducePow, Nat.reduceLT, Nat.reduceLeDiff, Nat.reduceEqDiff, Nat.reduceAdd, Nat.reduceMul, Nat.reduceSub, Nat.reduceBEq, Nat.reduceDiv, Nat.reduceMod, reduceCtorEq, sl1, wFacts, zA, qA, qC, nb_tf, nb_ft, nb_tt, nb_ff]
      exact retA rfl ldk44 rfl rfl rfl sR (by rw [hk, f5]; rfl)
  · have g1 : (v < 0) = False := eq_false hneg
    obtain ⟨k1, k2⟩ := key u v (by rw [Int.sign_eq_one_of_pos (by omega)]; omega) (by omega)
    have co := onez_fn v
    rw [zA_ge hneg] at co c2
    by_cases h1 : v = 1
    · simp only [h1, decide_true] at co
      have hk := k1 h1
      rw [h1] at c2
      refine Fn.intro (fn := Try.f22) Try.call22 Try.func22 rfl mixed 10 [] [] [] (by kernel_rfl) (Nat.le_of_ble_eq_true rfl) (by simp [settled_ints, settled_I, settled_fn0, settled_intss, settled_bool, settled_nil, settled_zA, settled_qA, settled_zR, settled_ofA, settled_int]) (vc_soundN 1000 ?_); simp (config := { maxSteps := 2000000 }) only [AS.start, ↓wPre, wPost, wFast, wCore, beq_self_eq_true, ite_true, ite_false, false_implies, true_implies, implies_true, eq_self, ne_eq, ↓reduceIte, reduceIte, Nat.reducePow, Nat.reduceLT, Nat.reduceLeDiff, Nat.reduceEqDiff, Nat.reduceAdd, Nat.reduceMul, Nat.reduceSub, Nat.reduceBEq, Nat.reduceDiv, Nat.reduceMod, reduceCtorEq, sl1, wFacts, zA, qA, qC, nb_tf, nb_ft, nb_tt, nb_ff]
      simp only [zp, zq, f1, f3, ↓wPre, wPost, wFast, wCore, beq_self_eq_true, ite_true, ite_false, false_implies, true_implies, implies_true, eq_self, ne_eq, ↓reduceIte, reduceIte, Nat.reducePow, Nat.reduceLT, Nat.reduceLeDiff, Nat.reduceEqDiff, Nat.reduceAdd, Nat.reduceMul, Nat.reduceSub, Nat.reduceBEq, Nat.reduceDiv, Nat.reduceMod, reduceCtorEq, sl1, wFacts, zA, qA, qC, nb_tf, nb_ft, nb_tt, nb_ff]
      refine call_fn cg rfl ?_
      simp only [↓wPre, wPost, wFast, wCore, beq_self_eq_true, ite_true, ite_false, false_implies, true_implies, implies_true, eq_self, ne_eq, ↓reduceIte, reduceIte, Nat.reducePow, Nat.reduceLT, Nat.reduceLeDiff, Nat.reduceEqDiff, Nat.reduceAdd, Nat.reduceMul, Nat.reduceSub, Nat.reduceBEq, Nat.reduceDiv, Nat.reduceMod, reduceCtorEq, sl1, wFacts, zA, qA, qC, nb_tf, nb_ft, nb_tt, nb_ff]
      refine call_fn c1 rfl ?_
      simp only [↓wPre, wPost, wFast, wCore, beq_self_eq_true, ite_true, ite_false, false_implies, true_implies, implies_true, eq_self, ne_eq, ↓reduceIte, reduceIte, Nat.reducePow, Nat.reduceLT, Nat.reduceLeDiff, Nat.reduceEqDiff, Nat.reduceAdd, Nat.reduceMul, Nat.reduceSub, Nat.reduceBEq, Nat.reduceDiv, Nat.reduceMod, reduceCtorEq, sl1, wFacts, zA, qA, qC, nb_tf, nb_ft, nb_tt, nb_ff]
      refine call_fn c2 rfl ?_
      simp only [↓wPre, wPost, wFast, wCore, beq_self_eq_true, ite_true, ite_false, false_implies, true_implies, implies_true, eq_self, ne_eq, ↓reduceIte, reduceIte, Nat.reducePow, Nat.reduceLT, Nat.reduceLeDiff, Nat.reduceEqDiff, Nat.reduceAdd, Nat.reduceMul, Nat.reduceSub, Nat.reduceBEq, Nat.reduceDiv, Nat.reduceMod, reduceCtorEq, sl1, wFacts, zA, qA, qC, nb_tf, nb_ft, nb_tt, nb_ff]
      refine call_fn co rfl ?_
      simp only [↓wPre, wPost, wFast, wCore, beq_self_eq_true, ite_true, ite_false, false_implies, true_implies, implies_true, eq_self, ne_eq, ↓reduceIte, reduceIte, Nat.reducePow, Nat.reduceLT, Nat.reduceLeDiff, Nat.reduceEqDiff, Nat.reduceAdd, Nat.reduceMul, Nat.reduceSub, Nat.reduceBEq, Nat.reduceDiv, Nat.reduceMod, reduceCtorEq, sl1, wFacts, zA, qA, qC, nb_tf, nb_ft, nb_tt, nb_ff]
      exact retRefE rfl ldk44 rfl rfl rfl hk sR ⟨Weak.rfl' _, Weak.rfl' _, Weak.rfl' _, weak_emp _ _, trivial⟩
    · simp only [h1, decide_false] at co
      have hk := k2 h1
      refine Fn.intro (fn := Try.f22) Try.call22 Try.func22 rfl mixed 10 [] [] [] (by kernel_rfl) (Nat.le_of_ble_eq_true rfl) (by simp [settled_ints, settled_I, settled_fn0, settled_intss, settled_bool, settled_nil, settled_zA, settled_qA, settled_zR, settled_ofA, settled_int]) (vc_soundN 1000 ?_); simp (config := { maxSteps := 2000000 }) only [AS.start, ↓wPre, wPost, wFast, wCore, beq_self_eq_true, ite_true, ite_false, false_implies, true_implies, implies_true, eq_self, ne_eq, ↓reduceIte, reduceIte, Nat.reducePow, Nat.reduceLT, Nat.reduceLeDiff, Nat.reduceEqDiff, Nat.reduceAdd, Nat.reduceMul, Nat.reduceSub, Nat.reduceBEq, Nat.reduceDiv, Nat.reduceMod, reduceCtorEq, sl1, wFacts, zA, qA, qC, nb_tf, nb_ft, nb_tt, nb_ff]
      simp only [zp, zq, f1, f3, ↓wPre, wPost, wFast, wCore, beq_self_eq_true, ite_true, ite_false, false_implies, true_implies, implies_true, eq_self, ne_eq, ↓reduceIte, reduceIte, Nat.reducePow, Nat.reduceLT, Nat.reduceLeDiff, Nat.reduceEqDiff, Nat.reduceAdd, Nat.reduceMul, Nat.reduceSub, Nat.reduceBEq, Nat.reduceDiv, Nat.reduceMod, reduceCtorEq, sl1, wFacts, zA, qA, qC, nb_tf, nb_ft, nb_tt, nb_ff]
      refine call_fn cg rfl ?_
      simp only [↓wPre, wPost, wFast, wCore, beq_self_eq_true, ite_true, ite_false, false_implies, true_implies, implies_true, eq_self, ne_eq, ↓reduceIte, reduceIte, Nat.reducePow, Nat.reduceLT, Nat.reduceLeDiff, Nat.reduceEqDiff, Nat.reduceAdd, Nat.reduceMul, Nat.reduceSub, Nat.reduceBEq, Nat.reduceDiv, Nat.reduceMod, reduceCtorEq, sl1, wFacts, zA, qA, qC, nb_tf, nb_ft, nb_tt, nb_ff]
      refine call_fn c1 rfl ?_
      simp only [↓wPre, wPost, wFast, wCore, beq_self_eq_true, ite_true, ite_false, false_implies, true_implies, implies_true, eq_self, ne_eq, ↓reduceIte, reduceIte, Nat.reducePow, Nat.reduceLT, Nat.reduceLeDiff, Nat.reduceEqDiff, Nat.reduceAdd, Nat.reduceMul, Nat.reduceSub, Nat.reduceBEq, Nat.reduceDiv, Nat.reduceMod, reduceCtorEq, sl1, wFacts, zA, qA, qC, nb_tf, nb_ft, nb_tt, nb_ff]
      refine call_fn c2 rfl ?_
      simp only [↓wPre, wPost, wFast, wCore, beq_self_eq_true, ite_true, ite_false, false_implies, true_implies, implies_true, eq_self, ne_eq, ↓reduceIte, reduceIte, Nat.reducePow, Nat.reduceLT, Nat.reduceLeDiff, Nat.reduceEqDiff, Nat.reduceAdd, Nat.reduceMul, Nat.reduceSub, Nat.reduceBEq, Nat.reduceDiv, Nat.reduceMod, reduceCtorEq, sl1, wFacts, zA, qA, qC, nb_tf, nb_ft, nb_tt, nb_ff]
      refine call_fn co rfl ?_
      simp only [↓wPre, wPost, wFast, wCore, beq_self_eq_true, ite_true, ite_false, false_implies, true_implies, implies_true, eq_self, ne_eq, ↓reduceIte, reduceIte, Nat.reducePow, Nat.reduceLT, Nat.reduceLeDiff, Nat.reduceEqDiff, Nat.reduceAdd, Nat.reduceMul, Nat.reduceSub, Nat.reduceBEq, Nat.reduceDiv, Nat.reduceMod, reduceCtorEq, sl1, wFacts, zA, qA, qC, nb_tf, nb_ft, nb_tt, nb_ff]
      exact retA rfl ldk44 rfl rfl rfl sR (by rw [hk]; rfl)
theorem of04_fn (p q : Int) (hp : in64 p) (hq : in64 q) : Fn Try.prog 12 [I p, I q] (qA (Rat.divInt p q)) := by
  obtain ⟨R, hR⟩ : ∃ R, R = qA (Rat.divInt p q) := ⟨_, rfl⟩
  have sR : Settled R := hR ▸ settled_qA _
  have cm := make04_fn p q (by have := bl_i64 hp; omega) (by have := bl_i64 hq; omega)
  rw [← hR] at cm ⊢
  refine Fn.intro (fn := Try.f12) Try.call12 Try.func12 rfl mixed 5 [] [] [] (by kernel_rfl) (Nat.le_of_ble_eq_true rfl) (by simp [settled_ints, settled_I, settled_fn0, settled_intss, settled_bool, settled_nil, settled_zA, settled_qA, settled_zR, settled_ofA, settled_int]) (vc_soundN 1000 ?_); simp (config := { maxSteps := 2000000 }) only [AS.start, ↓wPre, wPost, wFast, wCore, beq_self_eq_true, ite_true, ite_false, false_implies, true_implies, implies_true, eq_self, ne_eq, ↓reduceIte, reduceIte, Nat.reducePow, Nat.reduceLT, Nat.reduceLeDiff, Nat.reduceEqDiff, Nat.reduceAdd, Nat.reduceMul, Nat.reduceSub, Nat.reduceBEq, Nat.reduceDiv, Nat.reduceMod, reduceCtorEq, sl1, wFacts, zA, qA, qC, nb_tf, nb_ft, nb_tt, nb_ff]
  refine call_fn (rofZ_fn p hp) rfl ?_
  simp only [↓wPre, wPost, wFast, wCore, beq_self_eq_true, ite_true, ite_false, false_implies, true_implies, implies_true, eq_self, ne_eq, ↓reduceIte, reduceIte, Nat.reducePow, Nat.reduceLT, Nat.reduceLeDiff, Nat.reduceEqDiff, Nat.reduceAdd, Nat.reduceMul, Nat.reduceSub, Nat.reduceBEq, Nat.reduceDiv, Nat.reduceMod, reduceCtorEq, sl1, wFacts, zA, qA, qC, nb_tf, nb_ft, nb_tt, nb_ff]
  refine call_fn (rofZ_fn q hq) rfl ?_
  simp only [↓wPre, wPost, wFast, wCore, beq_self_eq_true, ite_true, ite_false, false_implies, true_implies, implies_true, eq_self, ne_eq, ↓reduceIte, reduceIte, Nat.reducePow, Nat.reduceLT, Nat.reduceLeDiff, Nat.reduceEqDiff, Nat.reduceAdd, Nat.reduceMul, Nat.reduceSub, Nat.reduceBEq, Nat.reduceDiv, Nat.reduceMod, reduceCtorEq, sl1, wFacts, zA, qA, qC, nb_tf, nb_ft, nb_tt, nb_ff]
  refine call_fn cm rfl ?_
  simp only [hR, ↓wPre, wPost, wFast, wCore, beq_self_eq_true, ite_true, ite_false, false_implies, true_implies, implies_true, eq_self, ne_eq, ↓reduceIte, reduceIte, Nat.reducePow, Nat.reduceLT, Nat.reduceLeDiff, Nat.reduceEqDiff, Nat.reduceAdd, Nat.reduceMul, Nat.reduceSub, Nat.reduceBEq, Nat.reduceDiv, Nat.reduceMod, reduceCtorEq, sl1, wFacts, zA, qA, qC, nb_tf, nb_ft, nb_tt, nb_ff]
  exact retA rfl ldk44 rfl rfl rfl sR (hR.trans rfl)
end
end Go.Ab.N

namespace Go.Ab.N
open Go Go.RowKit Go.Proofs
noncomputable section
set_option maxRecDepth 10000
set_option maxHeartbeats 2000000
set_option linter.unusedSimpArgs false
set_option linter.unusedVariables false
open Classical

/-! ### Vectors -/
structure V2 where
  x : Rat
  y : Rat
def vC (v : V2) : List AV := [.bool (decide (v.x.num < 0)), ints (digs v.x.num.natAbs), .bool false, ints (digs (qd v.x)), .bool (decide (v.y.num < 0)), ints (digs v.y.num.natAbs), .bool false, ints (digs (qd v.y))]
def vA (v : V2) : AV := .agg (vC v)
theorem settled_vA (v : V2) : Settled (vA v) := settled_agg (by simp [vC, settled_ints, settled_bool])
def vb (v : V2) : Nat := max (qb v.x) (qb v.y)
theorem vb_x (v : V2) : qb v.x ≤ vb v := Nat.le_max_left _ _
theorem vb_y (v : V2) : qb v.y ≤ vb v := Nat.le_max_right _ _
def V2.sub (a b : V2) : V2 := ⟨a.x - b.x, a.y - b.y⟩
def V2.add (a b : V2) : V2 := ⟨a.x + b.x, a.y + b.y⟩
def cross (a b : V2) : Rat := a.x * b.y - a.y * b.x
def dot (a b : V2) : Rat := a.x * b.x + a.y * b.y
def side (a b c : V2) : Int := (cross (b.sub a) (c.sub a)).num.sign
theorem vb_sub (a b : V2) : vb (a.sub b) ≤ vb a + vb b + 1 := by
  have := qb_sub a.x b.x; have := qb_sub a.y b.y
  have := vb_x a; have := vb_x b; have := vb_y a; have := vb_y b
  unfold V2.sub
  show max (qb (a.x - b.x)) (qb (a.y - b.y)) ≤ _
  omega
theorem vb_add (a b : V2) : vb (a.add b) ≤ vb a + vb b + 1 := by
  have := qb_add a.x b.x; have := qb_add a.y b.y
  have := vb_x a; have := vb_x b; have := vb_y a; have := vb_y b
  unfold V2.add
  show max (qb (a.x + b.x)) (qb (a.y + b.y)) ≤ _
  omega
theorem qb_cross (a b : V2) : qb (cross a b) ≤ 2 * (vb a + vb b) + 1 := by
  have := qb_mul a.x b.y; have := qb_mul a.y b.x
  have := vb_x a; have := vb_x b; have := vb_y a; have := vb_y b
  have := qb_sub (a.x * b.y) (a.y * b.x)
  unfold cross; omega
theorem qb_dot (a b : V2) : qb (dot a b) ≤ 2 * (vb a + vb b) + 1 := by
  have := qb_mul a.x b.x; have := qb_mul a.y b.y
  have := vb_x a; have := vb_x b; have := vb_y a; have := vb_y b
  have := qb_add (a.x * b.x) (a.y * b.y)
  unfold dot; omega
theorem qb_zero : qb 0 ≤ 1 := qb_int 0 1 (Nat.le_refl _) (by unfold bl; simp [digs_zero])
theorem weakIn_of {H : List AO} {a b : AV} (h : Weak a b) : WeakIn H a b := fun c v _ _ hv => h c v hv
theorem weak_empE {l : List Int} {f : Nat → AV} {t : Bool} (h : l = []) : Weak (.sl 0 0 f t) (ints l) := by rw [h]; exact weak_emp _ _
/-- The sum of two numbers. -/
theorem psum_fn (a b : Rat) (ha : qb a ≤ 10000000) (hb : qb b ≤ 10000000) : Fn Try.prog 90 [.sl 2 8 (ofL (qC a ++ qC b)) false] (qA (a + b)) := by
  obtain ⟨R, hR⟩ : ∃ R, R = qA (a + b) := ⟨_, rfl⟩
  have sR : Settled R := hR ▸ settled_qA _
  have q0 := qb_zero
  have c1 := radd_fn 0 a (by unfold rm; omega) (by unfold rm; omega)
  have c2 := radd_fn a b (by unfold rm; omega) (by unfold rm; omega)
  rw [Rat.zero_add] at c1
  rw [← hR] at c2 ⊢
  have hset : Settled (.sl 2 8 (ofL (qC a ++ qC b)) false) := settled_sl fun j hj => by
    unfold ofL qC
    match j, hj with
    | 0, _ => exact settled_bool _
    | 1, _ => exact settled_ints _
    | 2, _ => exact settled_bool _
    | 3, _ => exact settled_ints _
    | 4, _ => exact settled_bool _
    | 5, _ => exact settled_ints _
    | 6, _ => exact settled_bool _
    | 7, _ => exact settled_ints _
    | j + 8, h => omega
  have bel2 : Bel 2 (.sl 2 8 (ofL (qC a ++ qC b)) false) := bel_of_settled hset
  simp only [qC, List.cons_append, List.nil_append] at bel2
  have z1 : ((1 : Nat) : Int) = 1 := rfl
  have z2 : ((2 : Nat) : Int) = 2 := rfl
  have wr1 : IntKind.i64.wrap 1 = 1 := by rw [IntKind.wrap_i64]; omega
  have wr2 : IntKind.i64.wrap 2 = 2 := by rw [IntKind.wrap_i64]; omega
  refine Fn.intro (fn := Try.f90) Try.call90 Try.func90 rfl mixed 6 [6, 7, 8] [] [] (by kernel_rfl) (Nat.le_of_ble_eq_true rfl) (by simpa using hset) (vc_soundN 1000 ?_)
  simp only [AS.start, ↓wPre, wPost, wFast, wCore, beq_self_eq_true, ite_true, ite_false, false_implies, true_implies, implies_true, eq_self, ne_eq, ↓reduceIte, reduceIte, Nat.reducePow, Nat.reduceLT, Nat.reduceLeDiff, Nat.reduceEqDiff, Nat.reduceAdd, Nat.reduceMul, Nat.reduceSub, Nat.reduceBEq, Nat.reduceDiv, Nat.reduceMod, reduceCtorEq, sl1, wFacts, zA, qA, qC, vA, vC, nb_tf, nb_ft, nb_tt, nb_ff]
  refine run_loop (fun i : Nat => ⟨6, [6, 7, 8], [.any, .any, .ref 0 0 0, .ref 1 0 0, .any, .any], [(6, .sl 2 8 (ofL (qC a ++ qC b)) false), (7, I 2), (8, I i)],
    [.row 0 4 (ofL [.bool false, .sl 0 0 (fun _ => .any) true, .bool false, .sl 0 0 (fun _ => .any) true]), .row 0 4 (ofL (qC (if i = 0 then 0 else if i = 1 then a else a + b)))]⟩) (fun i => i ≤ 2) (fun i => 2 - i) 0 (by omega) ?_ ?_
  · refine (sub_roww 1 (ofL (qC 0)) rfl fun j hj => ?_).trans (sub_mk rfl (by simp [subL, qC, ints, sl1]) (by simp [subT, look, qC, ints, sl1, I]) (by simp))
    match j, hj with
    | 0, _ => exact weakIn_rfl _ _
    | 1, _ => exact weakIn_of (weak_empE (by rw [Rat.zero_num]; simp [digs_zero]))
    | 2, _ => exact weakIn_rfl _ _
    | 3, _ => exact weakIn_of (weak_empE (qd_one rfl))
    | j + 4, h => omega
  intro i hi next
  rcases (show i = 0 ∨ i = 1 ∨ i = 2 by omega) with rfl | rfl | rfl
  · refine vc_soundN 1000 ?_
    simp only [ite_true, z1, z2, wr1, wr2, Int.reduceLT, Int.reduceAdd, ↓wPre, wPost, wFast, wCore, beq_self_eq_true, ite_true, ite_false, false_implies, true_implies, implies_true, eq_self, ne_eq, ↓reduceIte, reduceIte, Nat.reducePow, Nat.reduceLT, Nat.reduceLeDiff, Nat.reduceEqDiff, Nat.reduceAdd, Nat.reduceMul, Nat.reduceSub, Nat.reduceBEq, Nat.reduceDiv, Nat.reduceMod, reduceCtorEq, sl1, wFacts, zA, qA, qC, vA, vC, nb_tf, nb_ft, nb_tt, nb_ff]
    refine call_fn c1 rfl ?_
    simp only [z1, z2, wr1, wr2, Int.reduceAdd, ↓wPre, wPost, wFast, wCore, beq_self_eq_true, ite_true, ite_false, false_implies, true_implies, implies_true, eq_self, ne_eq, ↓reduceIte, reduceIte, Nat.reducePow, Nat.reduceLT, Nat.reduceLeDiff, Nat.reduceEqDiff, Nat.reduceAdd, Nat.reduceMul, Nat.reduceSub, Nat.reduceBEq, Nat.reduceDiv, Nat.reduceMod, reduceCtorEq, sl1, wFacts, zA, qA, qC, vA, vC, nb_tf, nb_ft, nb_tt, nb_ff]
    exact next 1 _ (by omega) (by omega) (sub_cut (m := 2) (Nat.zero_le _) rfl (by simp [qC, subL, ints, sl1, I]) (by simp [qC, subT, look, ints, sl1, I]) (by simp [qC, ints, sl1, I]) (by simp [wBel]) (by simp [qC, wBel, bel2]) (by simp [qC, wBel]))
  · have e1 : ((1 : Nat) = 0) = False := eq_false (by omega)
    refine vc_soundN 1000 ?_
    simp only [e1, ite_true, ite_false, z1, z2, wr1, wr2, Int.reduceLT, Int.reduceAdd, ↓wPre, wPost, wFast, wCore, beq_self_eq_true, ite_true, ite_false, false_implies, true_implies, implies_true, eq_self, ne_eq, ↓reduceIte, reduceIte, Nat.reducePow, Nat.reduceLT, Nat.reduceLeDiff, Nat.reduceEqDiff, Nat.reduceAdd, Nat.reduceMul, Nat.reduceSub, Nat.reduceBEq, Nat.reduceDiv, Nat.reduceMod, reduceCtorEq, sl1, wFacts, zA, qA, qC, vA, vC, nb_tf, nb_ft, nb_tt, nb_ff]
    refine ⟨by omega, call_fn c2 rfl ?_⟩
    simp only [hR, z1, z2, wr1, wr2, Int.reduceAdd, ↓wPre, wPost, wFast, wCore, beq_self_eq_true, ite_true, ite_false, false_implies, true_implies, implies_true, eq_self, ne_eq, ↓reduceIte, reduceIte, Nat.reducePow, Nat.reduceLT, Nat.reduceLeDiff, Nat.reduceEqDiff, Nat.reduceAdd, Nat.reduceMul, Nat.reduceSub, Nat.reduceBEq, Nat.reduceDiv, Nat.reduceMod, reduceCtorEq, sl1, wFacts, zA, qA, qC, vA, vC, nb_tf, nb_ft, nb_tt, nb_ff]
    exact next 2 _ (by omega) (by omega) (sub_cut (m := 2) (Nat.zero_le _) rfl (by simp [qC, subL, ints, sl1, I]) (by simp [qC, subT, look, ints, sl1, I]) (by simp [qC, ints, sl1, I]) (by simp [wBel]) (by simp [qC, wBel, bel2]) (by simp [qC, wBel]))
  · have e1 : ((2 : Nat) = 0) = False := eq_false (by omega)
    have e2 : ((2 : Nat) = 1) = False := eq_false (by omega)
    refine vc_soundN 1000 ?_
    simp only [e1, e2, ite_false, z1, z2, wr1, wr2, Int.reduceLT, Int.reduceAdd, ↓wPre, wPost, wFast, wCore, beq_self_eq_true, ite_true, ite_false, false_implies, true_implies, implies_true, eq_self, ne_eq, ↓reduceIte, reduceIte, Nat.reducePow, Nat.reduceLT, Nat.reduceLeDiff, Nat.reduceEqDiff, Nat.reduceAdd, Nat.reduceMul, Nat.reduceSub, Nat.reduceBEq, Nat.reduceDiv, Nat.reduceMod, reduceCtorEq, sl1, wFacts, zA, qA, qC, vA, vC, nb_tf, nb_ft, nb_tt, nb_ff]
    exact retA rfl ldk44 rfl rfl rfl sR (hR.trans rfl)
def vm : Nat := 1000000
theorem retV {P : Program} {fn : Func} {str hcs : List Nat} {r : AV} {s : AS} {t u id ver n : Nat} {L : List AV} (hr : fn.results = #[.cell t u]) (hk : ldk P u = some (some n)) (hs : s.get t = .ref id ver 0)
    (ho : s.h[id]? = some (.row ver n (ofL L))) (hn : L.length = n) (hset : Settled r) (e : r = .agg L) : RetOk (envP P fn str hcs r) s := retRefE hr hk hs ho hn e hset (weakL_rfl L)
theorem psub_fn (a b : V2) (ha : vb a ≤ rm) (hb : vb b ≤ rm) : Fn Try.prog 80 [vA a, vA b] (vA (a.sub b)) := by
  obtain ⟨R, hR⟩ : ∃ R, R = vA (a.sub b) := ⟨_, rfl⟩
  have sR : Settled R := hR ▸ settled_vA _
  have := vb_x a; have := vb_x b; have := vb_y a; have := vb_y b
  have c1 := rsub_fn a.x b.x (by omega) (by omega)
  have c2 := rsub_fn a.y b.y (by omega) (by omega)
  rw [← hR]
  refine Fn.intro (fn := Try.f80) Try.call80 Try.func80 rfl mixed 5 [] [] [] (by kernel_rfl) (Nat.le_of_ble_eq_true rfl) (by simp [settled_ints, settled_I, settled_fn0, settled_intss, settled_bool, settled_nil, settled_zA, settled_qA, settled_vA, settled_zR, settled_ofA, settled_int]) (vc_soundN 1000 ?_); simp (config := { maxSteps := 2000000 }) only [AS.start, ↓wPre, wPost, wFast, wCore, beq_self_eq_true, ite_true, ite_false, false_implies, true_implies, implies_true, eq_self, ne_eq, ↓reduceIte, reduceIte, Nat.reducePow, Nat.reduceLT, Nat.reduceLeDiff, Nat.reduceEqDiff, Nat.reduceAdd, Nat.reduceMul, Nat.reduceSub, Nat.reduceBEq, Nat.reduceDiv, Nat.reduceMod, reduceCtorEq, sl1, wFacts, zA, qA, qC, vA, vC, nb_tf, nb_ft, nb_tt, nb_ff]
  refine call_fn c1 rfl ?_
  simp only [↓wPre, wPost, wFast, wCore, beq_self_eq_true, ite_true, ite_false, false_implies, true_implies, implies_true, eq_self, ne_eq, ↓reduceIte, reduceIte, Nat.reducePow, Nat.reduceLT, Nat.reduceLeDiff, Nat.reduceEqDiff, Nat.reduceAdd, Nat.reduceMul, Nat.reduceSub, Nat.reduceBEq, Nat.reduceDiv, Nat.reduceMod, reduceCtorEq, sl1, wFacts, zA, qA, qC, vA, vC, nb_tf, nb_ft, nb_tt, nb_ff]
  refine call_fn c2 rfl ?_
  simp only [↓wPre, wPost, wFast, wCore, beq_self_eq_true, ite_true, ite_false, false_implies, true_implies, implies_true, eq_self, ne_eq, ↓reduceIte, reduceIte, Nat.reducePow, Nat.reduceLT, Nat.reduceLeDiff, Nat.reduceEqDiff, Nat.reduceAdd, Nat.reduceMul, Nat.reduceSub, Nat.reduceBEq, Nat.reduceDiv, Nat.reduceMod, reduceCtorEq, sl1, wFacts, zA, qA, qC, vA, vC, nb_tf, nb_ft, nb_tt, nb_ff]
  exact retV rfl ldk96 rfl rfl rfl sR (hR.trans rfl)
theorem pof_fn (x y : Int) (hx : in64 x) (hy : in64 y) : Fn Try.prog 68 [I x, I y] (vA ⟨x, y⟩) := by
  have e : ∀ n : Int, Rat.divInt n 1 = (n : Rat) := fun n => by
    rw [show (1 : Int) = ((1 : Nat) : Int) from rfl, Rat.divInt_ofNat]
    have := Rat.mkRat_self (n : Rat)
    rwa [Rat.num_intCast, Rat.den_intCast] at this
  obtain ⟨R, hR⟩ : ∃ R, R = vA ⟨x, y⟩ := ⟨_, rfl⟩
  have sR : Settled R := hR ▸ settled_vA _
  have c1 := rof_fn x 1 hx ⟨by omega, by omega⟩
  have c2 := rof_fn y 1 hy ⟨by omega, by omega⟩
  rw [e] at c1 c2
  rw [← hR]
  refine Fn.intro (fn := Try.f68) Try.call68 Try.func68 rfl mixed 5 [] [] [] (by kernel_rfl) (Nat.le_of_ble_eq_true rfl) (by simp [settled_ints, settled_I, settled_fn0, settled_intss, settled_bool, settled_nil, settled_zA, settled_qA, settled_vA, settled_zR, settled_ofA, settled_int]) (vc_soundN 1000 ?_); simp (config := { maxSteps := 2000000 }) only [AS.start, ↓wPre, wPost, wFast, wCore, beq_self_eq_true, ite_true, ite_false, false_implies, true_implies, implies_true, eq_self, ne_eq, ↓reduceIte, reduceIte, Nat.reducePow, Nat.reduceLT, Nat.reduceLeDiff, Nat.reduceEqDiff, Nat.reduceAdd, Nat.reduceMul, Nat.reduceSub, Nat.reduceBEq, Nat.reduceDiv, Nat.reduceMod, reduceCtorEq, sl1, wFacts, zA, qA, qC, vA, vC, nb_tf, nb_ft, nb_tt, nb_ff]
  refine call_fn c1 rfl ?_
  simp only [↓wPre, wPost, wFast, wCore, beq_self_eq_true, ite_true, ite_false, false_implies, true_implies, implies_true, eq_self, ne_eq, ↓reduceIte, reduceIte, Nat.reducePow, Nat.reduceLT, Nat.reduceLeDiff, Nat.reduceEqDiff, Nat.reduceAdd, Nat.reduceMul, Nat.reduceSub, Nat.reduceBEq, Nat.reduceDiv, Nat.reduceMod, reduceCtorEq, sl1, wFacts, zA, qA, qC, vA, vC, nb_tf, nb_ft, nb_tt, nb_ff]
  refine call_fn c2 rfl ?_
  simp only [↓wPre, wPost, wFast, wCore, beq_self_eq_true, ite_true, ite_false, false_implies, true_implies, implies_true, eq_self, ne_eq, ↓reduceIte, reduceIte, Nat.reducePow, Nat.reduceLT, Nat.reduceLeDiff, Nat.reduceEqDiff, Nat.reduceAdd, Nat.reduceMul, Nat.reduceSub, Nat.reduceBEq, Nat.reduceDiv, Nat.reduceMod, reduceCtorEq, sl1, wFacts, zA, qA, qC, vA, vC, nb_tf, nb_ft, nb_tt, nb_ff]
  exact retV rfl ldk96 rfl rfl rfl sR (hR.trans rfl)
theorem pcross_fn (a b : V2) (ha : vb a ≤ vm) (hb : vb b ≤ vm) : Fn Try.prog 79 [vA a, vA b] (qA (cross a b)) := by
  unfold vm at ha hb
  obtain ⟨R, hR⟩ : ∃ R, R = qA (cross a b) := ⟨_, rfl⟩
  have sR : Settled R := hR ▸ settled_qA _
  have := vb_x a; have := vb_x b; have := vb_y a; have := vb_y b
  have m1 := qb_mul a.x b.y; have m2 := qb_mul a.y b.x
  have c1 := rmul_fn a.x b.y (by unfold rm; omega) (by unfold rm; omega)
  have c2 := rmul_fn a.y b.x (by unfold rm; omega) (by unfold rm; omega)
  have c3 := rneg_fn (a.y * b.x)
  have c4 := psum_fn (a.x * b.y) (-(a.y * b.x)) (by omega) (by rw [qb_neg]; omega)
  rw [← Rat.sub_eq_add_neg, show a.x * b.y - a.y * b.x = cross a b from rfl, ← hR] at c4
  rw [← hR]
  refine Fn.intro (fn := Try.f79) Try.call79 Try.func79 rfl mixed 5 [] [] [] (by kernel_rfl) (Nat.le_of_ble_eq_true rfl) (by simp [settled_ints, settled_I, settled_fn0, settled_intss, settled_bool, settled_nil, settled_zA, settled_qA, settled_vA, settled_zR, settled_ofA, settled_int]) (vc_soundN 1000 ?_); simp (config := { maxSteps := 2000000 }) only [AS.start, ↓wPre, wPost, wFast, wCore, beq_self_eq_true, ite_true, ite_false, false_implies, true_implies, implies_true, eq_self, ne_eq, ↓reduceIte, reduceIte, Nat.reducePow, Nat.reduceLT, Nat.reduceLeDiff, Nat.reduceEqDiff, Nat.reduceAdd, Nat.reduceMul, Nat.reduceSub, Nat.reduceBEq, Nat.reduceDiv, Nat.reduceMod, reduceCtorEq, sl1, wFacts, zA, qA, qC, vA, vC, nb_tf, nb_ft, nb_tt, nb_ff]
  refine call_fn c1 rfl ?_
  simp only [↓wPre, wPost, wFast, wCore, beq_self_eq_true, ite_true, ite_false, false_implies, true_implies, implies_true, eq_self, ne_eq, ↓reduceIte, reduceIte, Nat.reducePow, Nat.reduceLT, Nat.reduceLeDiff, Nat.reduceEqDiff, Nat.reduceAdd, Nat.reduceMul, Nat.reduceSub, Nat.reduceBEq, Nat.reduceDiv, Nat.reduceMod, reduceCtorEq, sl1, wFacts, zA, qA, qC, vA, vC, nb_tf, nb_ft, nb_tt, nb_ff]
  refine call_fn c2 rfl ?_
  simp only [↓wPre, wPost, wFast, wCore, beq_self_eq_true, ite_true, ite_false, false_implies, true_implies, implies_true, eq_self, ne_eq, ↓reduceIte, reduceIte, Nat.reducePow, Nat.reduceLT, Nat.reduceLeDiff, Nat.reduceEqDiff, Nat.reduceAdd, Nat.reduceMul, Nat.reduceSub, Nat.reduceBEq, Nat.reduceDiv, Nat.reduceMod, reduceCtorEq, sl1, wFacts, zA, qA, qC, vA, vC, nb_tf, nb_ft, nb_tt, nb_ff]
  refine call_fn c3 rfl ?_
  simp only [↓wPre, wPost, wFast, wCore, beq_self_eq_true, ite_true, ite_false, false_implies, true_implies, implies_true, eq_self, ne_eq, ↓reduceIte, reduceIte, Nat.reducePow, Nat.reduceLT, Nat.reduceLeDiff, Nat.reduceEqDiff, Nat.reduceAdd, Nat.reduceMul, Nat.reduceSub, Nat.reduceBEq, Nat.reduceDiv, Nat.reduceMod, reduceCtorEq, sl1, wFacts, zA, qA, qC, vA, vC, nb_tf, nb_ft, nb_tt, nb_ff]
  refine call_fn c4 rfl ?_
  simp only [hR, ↓wPre, wPost, wFast, wCore, beq_self_eq_true, ite_true, ite_false, false_implies, true_implies, implies_true, eq_self, ne_eq, ↓reduceIte, reduceIte, Nat.reducePow, Nat.reduceLT, Nat.reduceLeDiff, Nat.reduceEqDiff, Nat.reduceAdd, Nat.reduceMul, Nat.reduceSub, Nat.reduceBEq, Nat.reduceDiv, Nat.reduceMod, reduceCtorEq, sl1, wFacts, zA, qA, qC, vA, vC, nb_tf, nb_ft, nb_tt, nb_ff]
  exact retV rfl ldk44 rfl rfl rfl sR (hR.trans rfl)
theorem pdot_fn (a b : V2) (ha : vb a ≤ vm) (hb : vb b ≤ vm) : Fn Try.prog 93 [vA a, vA b] (qA (dot a b)) := by
  unfold vm at ha hb
  obtain ⟨R, hR⟩ : ∃ R, R = qA (dot a b) := ⟨_, rfl⟩
  have sR : Settled R := hR ▸ settled_qA _
  have := vb_x a; have := vb_x b; have := vb_y a; have := vb_y b
  have m1 := qb_mul a.x b.x; have m2 := qb_mul a.y b.y
  have c1 := rmul_fn a.x b.x (by unfold rm; omega) (by unfold rm; omega)
  have c2 := rmul_fn a.y b.y (by unfold rm; omega) (by unfold rm; omega)
  have c4 := psum_fn (a.x * b.x) (a.y * b.y) (by omega) (by omega)
  rw [show a.x * b.x + a.y * b.y = dot a b from rfl, ← hR] at c4
  rw [← hR]
  refine Fn.intro (fn := Try.f93) Try.call93 Try.func93 rfl mixed 5 [] [] [] (by kernel_rfl) (Nat.le_of_ble_eq_true rfl) (by simp [settled_ints, settled_I, settled_fn0, settled_intss, settled_bool, settled_nil, settled_zA, settled_qA, settled_vA, settled_zR, settled_ofA, settled_int]) (vc_soundN 1000 ?_); simp (config := { maxSteps := 2000000 }) only [AS.start, ↓wPre, wPost, wFast, wCore, beq_self_eq_true, ite_true, ite_false, false_implies, true_implies, implies_true, eq_self, ne_eq, ↓reduceIte, reduceIte, Nat.reducePow, Nat.reduceLT, Nat.reduceLeDiff, Nat.reduceEqDiff, Nat.reduceAdd, Nat.reduceMul, Nat.reduceSub, Nat.reduceBEq, Nat.reduceDiv, Nat.reduceMod, reduceCtorEq, sl1, wFacts, zA, qA, qC, vA, vC, nb_tf, nb_ft, nb_tt, nb_ff]
  refine call_fn c1 rfl ?_
  simp only [↓wPre, wPost, wFast, wCore, beq_self_eq_true, ite_true, ite_false, false_implies, true_implies, implies_true, eq_self, ne_eq, ↓reduceIte, reduceIte, Nat.reducePow, Nat.reduceLT, Nat.reduceLeDiff, Nat.reduceEqDiff, Nat.reduceAdd, Nat.reduceMul, Nat.reduceSub, Nat.reduceBEq, Nat.reduceDiv, Nat.reduceMod, reduceCtorEq, sl1, wFacts, zA, qA, qC, vA, vC, nb_tf, nb_ft, nb_tt, nb_ff]
  refine call_fn c2 rfl ?_
  simp only [↓wPre, wPost, wFast, wCore, beq_self_eq_true, ite_true, ite_false, false_implies, true_implies, implies_true, eq_self, ne_eq, ↓reduceIte, reduceIte, Nat.reducePow, Nat.reduceLT, Nat.reduceLeDiff, Nat.reduceEqDiff, Nat.reduceAdd, Nat.reduceMul, Nat.reduceSub, Nat.reduceBEq, Nat.reduceDiv, Nat.reduceMod, reduceCtorEq, sl1, wFacts, zA, qA, qC, vA, vC, nb_tf, nb_ft, nb_tt, nb_ff]
  refine call_fn c4 rfl ?_
  simp only [hR, ↓wPre, wPost, wFast, wCore, beq_self_eq_true, ite_true, ite_false, false_implies, true_implies, implies_true, eq_self, ne_eq, ↓reduceIte, reduceIte, Nat.reducePow, Nat.reduceLT, Nat.reduceLeDiff, Nat.reduceEqDiff, Nat.reduceAdd, Nat.reduceMul, Nat.reduceSub, Nat.reduceBEq, Nat.reduceDiv, Nat.reduceMod, reduceCtorEq, sl1, wFacts, zA, qA, qC, vA, vC, nb_tf, nb_ft, nb_tt, nb_ff]
  exact retV rfl ldk44 rfl rfl rfl sR (hR.trans rfl)
def vs : Nat := 100000
theorem pside_fn (a b c : V2) (ha : vb a ≤ vs) (hb : vb b ≤ vs) (hc : vb c ≤ vs) : Fn Try.prog 65 [vA a, vA b, vA c] (I (side a b c)) := by
  unfold vs at ha hb hc
  have m1 := vb_sub b a; have m2 := vb_sub c a
  have c1 := psub_fn b a (by unfold rm; omega) (by unfold rm; omega)
  have c2 := psub_fn c a (by unfold rm; omega) (by unfold rm; omega)
  have c3 := pcross_fn (b.sub a) (c.sub a) (by unfold vm; omega) (by unfold vm; omega)
  have c4 := rsign_fn (cross (b.sub a) (c.sub a))
  refine Fn.intro (fn := Try.f65) Try.call65 Try.func65 rfl mixed 7 [] [] [] (by kernel_rfl) (Nat.le_of_ble_eq_true rfl) (by simp [settled_ints, settled_I, settled_fn0, settled_intss, settled_bool, settled_nil, settled_zA, settled_qA, settled_vA, settled_zR, settled_ofA, settled_int]) (vc_soundN 1000 ?_); simp (config := { maxSteps := 2000000 }) only [AS.start, ↓wPre, wPost, wFast, wCore, beq_self_eq_true, ite_true, ite_false, false_implies, true_implies, implies_true, eq_self, ne_eq, ↓reduceIte, reduceIte, Nat.reducePow, Nat.reduceLT, Nat.reduceLeDiff, Nat.reduceEqDiff, Nat.reduceAdd, Nat.reduceMul, Nat.reduceSub, Nat.reduceBEq, Nat.reduceDiv, Nat.reduceMod, reduceCtorEq, sl1, wFacts, zA, qA, qC, vA, vC, nb_tf, nb_ft, nb_tt, nb_ff]
  refine call_fn c1 rfl ?_
  simp only [↓wPre, wPost, wFast, wCore, beq_self_eq_true, ite_true, ite_false, false_implies, true_implies, implies_true, eq_self, ne_eq, ↓reduceIte, reduceIte, Nat.reducePow, Nat.reduceLT, Nat.reduceLeDiff, Nat.reduceEqDiff, Nat.reduceAdd, Nat.reduceMul, Nat.reduceSub, Nat.reduceBEq, Nat.reduceDiv, Nat.reduceMod, reduceCtorEq, sl1, wFacts, zA, qA, qC, vA, vC, nb_tf, nb_ft, nb_tt, nb_ff]
  refine call_fn c2 rfl ?_
  simp only [↓wPre, wPost, wFast, wCore, beq_self_eq_true, ite_true, ite_false, false_implies, true_implies, implies_true, eq_self, ne_eq, ↓reduceIte, reduceIte, Nat.reducePow, Nat.reduceLT, Nat.reduceLeDiff, Nat.reduceEqDiff, Nat.reduceAdd, Nat.reduceMul, Nat.reduceSub, Nat.reduceBEq, Nat.reduceDiv, Nat.reduceMod, reduceCtorEq, sl1, wFacts, zA, qA, qC, vA, vC, nb_tf, nb_ft, nb_tt, nb_ff]
  refine call_fn c3 rfl ?_
  simp only [↓wPre, wPost, wFast, wCore, beq_self_eq_true, ite_true, ite_false, false_implies, true_implies, implies_true, eq_self, ne_eq, ↓reduceIte, reduceIte, Nat.reducePow, Nat.reduceLT, Nat.reduceLeDiff, Nat.reduceEqDiff, Nat.reduceAdd, Nat.reduceMul, Nat.reduceSub, Nat.reduceBEq, Nat.reduceDiv, Nat.reduceMod, reduceCtorEq, sl1, wFacts, zA, qA, qC, vA, vC, nb_tf, nb_ft, nb_tt, nb_ff]
  refine call_fn c4 rfl ?_
  simp only [↓wPre, wPost, wFast, wCore, beq_self_eq_true, ite_true, ite_false, false_implies, true_implies, implies_true, eq_self, ne_eq, ↓reduceIte, reduceIte, Nat.reducePow, Nat.reduceLT, Nat.reduceLeDiff, Nat.reduceEqDiff, Nat.reduceAdd, Nat.reduceMul, Nat.reduceSub, Nat.reduceBEq, Nat.reduceDiv, Nat.reduceMod, reduceCtorEq, sl1, wFacts, zA, qA, qC, vA, vC, nb_tf, nb_ft, nb_tt, nb_ff]
  exact ret1E rfl rfl (settled_I _) rfl
def onF (a b p : V2) : Bool := decide (side a b p = 0) && decide ((dot (a.sub p) (b.sub p)).num.sign ≤ 0)
theorem on_fn (a b p : V2) (ha : vb a ≤ vs) (hb : vb b ≤ vs) (hp : vb p ≤ vs) : Fn Try.prog 81 [vA a, vA b, vA p] (.bool (onF a b p)) := by
  have c1 := pside_fn a b p ha hb hp
  unfold vs at ha hb hp
  have m1 := vb_sub a p; have m2 := vb_sub b p
  have c2 := psub_fn a p (by unfold rm; omega) (by unfold rm; omega)
  have c3 := psub_fn b p (by unfold rm; omega) (by unfold rm; omega)
  have c4 := pdot_fn (a.sub p) (b.sub p) (by unfold vm; omega) (by unfold vm; omega)
  have c5 := rsign_fn (dot (a.sub p) (b.sub p))
  obtain ⟨V, hV⟩ : ∃ V, V = onF a b p := ⟨_, rfl⟩
  rw [← hV]
  unfold onF at hV
  refine Fn.intro (fn := Try.f81) Try.call81 Try.func81 rfl mixed 7 [] [] [] (by kernel_rfl) (Nat.le_of_ble_eq_true rfl) (by simp [settled_ints, settled_I, settled_fn0, settled_intss, settled_bool, settled_nil, settled_zA, settled_qA, settled_vA, settled_zR, settled_ofA, settled_int]) (vc_soundN 1000 ?_); simp (config := { maxSteps := 2000000 }) only [AS.start, ↓wPre, wPost, wFast, wCore, beq_self_eq_true, ite_true, ite_false, false_implies, true_implies, implies_true, eq_self, ne_eq, ↓reduceIte, reduceIte, Nat.reducePow, Nat.reduceLT, Nat.reduceLeDiff, Nat.reduceEqDiff, Nat.reduceAdd, Nat.reduceMul, Nat.reduceSub, Nat.reduceBEq, Nat.reduceDiv, Nat.reduceMod, reduceCtorEq, sl1, wFacts, zA, qA, qC, vA, vC, nb_tf, nb_ft, nb_tt, nb_ff]
  refine call_fn c1 rfl ?_
  by_cases h : side a b p = 0
  · have f1 : (side a b p = 0) = True := eq_true h
    simp only [f1, ↓wPre, wPost, wFast, wCore, beq_self_eq_true, ite_true, ite_false, false_implies, true_implies, implies_true, eq_self, ne_eq, ↓reduceIte, reduceIte, Nat.reducePow, Nat.reduceLT, Nat.reduceLeDiff, Nat.reduceEqDiff, Nat.reduceAdd, Nat.reduceMul, Nat.reduceSub, Nat.reduceBEq, Nat.reduceDiv, Nat.reduceMod, reduceCtorEq, sl1, wFacts, zA, qA, qC, vA, vC, nb_tf, nb_ft, nb_tt, nb_ff]
    refine call_fn c2 rfl ?_
    simp only [↓wPre, wPost, wFast, wCore, beq_self_eq_true, ite_true, ite_false, false_implies, true_implies, implies_true, eq_self, ne_eq, ↓reduceIte, reduceIte, Nat.reducePow, Nat.reduceLT, Nat.reduceLeDiff, Nat.reduceEqDiff, Nat.reduceAdd, Nat.reduceMul, Nat.reduceSub, Nat.reduceBEq, Nat.reduceDiv, Nat.reduceMod, reduceCtorEq, sl1, wFacts, zA, qA, qC, vA, vC, nb_tf, nb_ft, nb_tt, nb_ff]
    refine call_fn c3 rfl ?_
    simp only [↓wPre, wPost, wFast, wCore, beq_self_eq_true, ite_true, ite_false, false_implies, true_implies, implies_true, eq_self, ne_eq, ↓reduceIte, reduceIte, Nat.reducePow, Nat.reduceLT, Nat.reduceLeDiff, Nat.reduceEqDiff, Nat.reduceAdd, Nat.reduceMul, Nat.reduceSub, Nat.reduceBEq, Nat.reduceDiv, Nat.reduceMod, reduceCtorEq, sl1, wFacts, zA, qA, qC, vA, vC, nb_tf, nb_ft, nb_tt, nb_ff]
    refine call_fn c4 rfl ?_
    simp only [↓wPre, wPost, wFast, wCore, beq_self_eq_true, ite_true, ite_false, false_implies, true_implies, implies_true, eq_self, ne_eq, ↓reduceIte, reduceIte, Nat.reducePow, Nat.reduceLT, Nat.reduceLeDiff, Nat.reduceEqDiff, Nat.reduceAdd, Nat.reduceMul, Nat.reduceSub, Nat.reduceBEq, Nat.reduceDiv, Nat.reduceMod, reduceCtorEq, sl1, wFacts, zA, qA, qC, vA, vC, nb_tf, nb_ft, nb_tt, nb_ff]
    refine call_fn c5 rfl ?_
    simp only [↓wPre, wPost, wFast, wCore, beq_self_eq_true, ite_true, ite_false, false_implies, true_implies, implies_true, eq_self, ne_eq, ↓reduceIte, reduceIte, Nat.reducePow, Nat.reduceLT, Nat.reduceLeDiff, Nat.reduceEqDiff, Nat.reduceAdd, Nat.reduceMul, Nat.reduceSub, Nat.reduceBEq, Nat.reduceDiv, Nat.reduceMod, reduceCtorEq, sl1, wFacts, zA, qA, qC, vA, vC, nb_tf, nb_ft, nb_tt, nb_ff]
    exact ret1E rfl rfl (settled_bool _) (by rw [hV, decide_eq_true h]; rfl)
  · have f1 : (side a b p = 0) = False := eq_false h
    simp only [f1, ↓wPre, wPost, wFast, wCore, beq_self_eq_true, ite_true, ite_false, false_implies, true_implies, implies_true, eq_self, ne_eq, ↓reduceIte, reduceIte, Nat.reducePow, Nat.reduceLT, Nat.reduceLeDiff, Nat.reduceEqDiff, Nat.reduceAdd, Nat.reduceMul, Nat.reduceSub, Nat.reduceBEq, Nat.reduceDiv, Nat.reduceMod, reduceCtorEq, sl1, wFacts, zA, qA, qC, vA, vC, nb_tf, nb_ft, nb_tt, nb_ff]
    exact ret1E rfl rfl (settled_bool _) (by rw [hV, decide_eq_false h]; rfl)
def properF (a b c d : V2) : Bool := decide (side a b c * side a b d < 0) && decide (side c d a * side c d b < 0)
def meetsF (a b c d : V2) : Bool := properF a b c d || onF a b c || onF a b d || onF c d a || onF c d b
theorem side_bit (a b c : V2) : -1 ≤ side a b c ∧ side a b c ≤ 1 := by
  unfold side
  generalize (cross (b.sub a) (c.sub a)).num = n
  rcases Int.lt_trichotomy n 0 with h | h | h
  · rw [Int.sign_eq_neg_one_of_neg h]; omega
  · rw [h]; simp
  · rw [Int.sign_eq_one_of_pos h]; omega
theorem bit_mul {x y : Int} (hx : -1 ≤ x ∧ x ≤ 1) (hy : -1 ≤ y ∧ y ≤ 1) : IntKind.i64.wrap (x * y) = x * y := by
  rcases (show x = -1 ∨ x = 0 ∨ x = 1 by omega) with rfl | rfl | rfl <;> rw [IntKind.wrap_i64] <;> omega
theorem meets_fn (a b c d : V2) (ha : vb a ≤ vs) (hb : vb b ≤ vs) (hc : vb c ≤ vs) (hd : vb d ≤ vs) : Fn Try.prog 66 [vA a, vA b, vA c, vA d] (.bool (meetsF a b c d)) := by
  have c1 := pside_fn a b c ha hb hc
  have c2 := pside_fn a b d ha hb hd
  have c3 := pside_fn c d a hc hd ha
  have c4 := pside_fn c d b hc hd hb
  have d1 := on_fn a b c ha hb hc
  have d2 := on_fn a b d ha hb hd
  have d3 := on_fn c d a hc hd ha
  have d4 := on_fn c d b hc hd hb
  have w1 := bit_mul (side_bit a b c) (side_bit a b d)
  have w2 := bit_mul (side_bit c d a) (side_bit c d b)
  obtain ⟨V, hV⟩ : ∃ V, V = meetsF a b c d := ⟨_, rfl⟩
  rw [← hV]
  unfold meetsF properF at hV
  have fin : ∀ {s : AS} {v : Bool}, s.get 8 = .bool v → v = V → RetOk (envP Try.prog Try.f66 [] [] (.bool V)) s := fun h e => ret1E rfl h (settled_bool _) (by rw [e])
  obtain ⟨B1, hB1⟩ : ∃ B, B = onF a b c := ⟨_, rfl⟩
  obtain ⟨B2, hB2⟩ : ∃ B, B = onF a b d := ⟨_, rfl⟩
  obtain ⟨B3, hB3⟩ : ∃ B, B = onF c d a := ⟨_, rfl⟩
  obtain ⟨B4, hB4⟩ : ∃ B, B = onF c d b := ⟨_, rfl⟩
  rw [← hB1] at d1 hV
  rw [← hB2] at d2 hV
  rw [← hB3] at d3 hV
  rw [← hB4] at d4 hV
  refine Fn.intro (fn := Try.f66) Try.call66 Try.func66 rfl mixed 9 [] [] [] (by kernel_rfl) (Nat.le_of_ble_eq_true rfl) (by simp [settled_ints, settled_I, settled_fn0, settled_intss, settled_bool, settled_nil, settled_zA, settled_qA, settled_vA, settled_zR, settled_ofA, settled_int]) (vc_soundN 1000 ?_); simp (config := { maxSteps := 2000000 }) only [AS.start, ↓wPre, wPost, wFast, wCore, beq_self_eq_true, ite_true, ite_false, false_implies, true_implies, implies_true, eq_self, ne_eq, ↓reduceIte, reduceIte, Nat.reducePow, Nat.reduceLT, Nat.reduceLeDiff, Nat.reduceEqDiff, Nat.reduceAdd, Nat.reduceMul, Nat.reduceSub, Nat.reduceBEq, Nat.reduceDiv, Nat.reduceMod, reduceCtorEq, sl1, wFacts, zA, qA, qC, vA, vC, nb_tf, nb_ft, nb_tt, nb_ff]
  refine call_fn c1 rfl ?_
  simp only [↓wPre, wPost, wFast, wCore, beq_self_eq_true, ite_true, ite_false, false_implies, true_implies, implies_true, eq_self, ne_eq, ↓reduceIte, reduceIte, Nat.reducePow, Nat.reduceLT, Nat.reduceLeDiff, Nat.reduceEqDiff, Nat.reduceAdd, Nat.reduceMul, Nat.reduceSub, Nat.reduceBEq, Nat.reduceDiv, Nat.reduceMod, reduceCtorEq, sl1, wFacts, zA, qA, qC, vA, vC, nb_tf, nb_ft, nb_tt, nb_ff]
  refine call_fn c2 rfl ?_
  by_cases h1 : side a b c * side a b d < 0
  · have f1 : (side a b c * side a b d < 0) = True := eq_true h1
    simp only [w1, f1, ↓wPre, wPost, wFast, wCore, beq_self_eq_true, ite_true, ite_false, false_implies, true_implies, implies_true, eq_self, ne_eq, ↓reduceIte, reduceIte, Nat.reducePow, Nat.reduceLT, Nat.reduceLeDiff, Nat.reduceEqDiff, Nat.reduceAdd, Nat.reduceMul, Nat.reduceSub, Nat.reduceBEq, Nat.reduceDiv, Nat.reduceMod, reduceCtorEq, sl1, wFacts, zA, qA, qC, vA, vC, nb_tf, nb_ft, nb_tt, nb_ff]
    refine call_fn c3 rfl ?_
    simp only [↓wPre, wPost, wFast, wCore, beq_self_eq_true, ite_true, ite_false, false_implies, true_implies, implies_true, eq_self, ne_eq, ↓reduceIte, reduceIte, Nat.reducePow, Nat.reduceLT, Nat.reduceLeDiff, Nat.reduceEqDiff, Nat.reduceAdd, Nat.reduceMul, Nat.reduceSub, Nat.reduceBEq, Nat.reduceDiv, Nat.reduceMod, reduceCtorEq, sl1, wFacts, zA, qA, qC, vA, vC, nb_tf, nb_ft, nb_tt, nb_ff]
    refine call_fn c4 rfl ?_
    by_cases h2 : side c d a * side c d b < 0
    · have f2 : (side c d a * side c d b < 0) = True := eq_true h2
      simp only [w2, f2, ↓wPre, wPost, wFast, wCore, beq_self_eq_true, ite_true, ite_false, false_implies, true_implies, implies_true, eq_self, ne_eq, ↓reduceIte, reduceIte, Nat.reducePow, Nat.reduceLT, Nat.reduceLeDiff, Nat.reduceEqDiff, Nat.reduceAdd, Nat.reduceMul, Nat.reduceSub, Nat.reduceBEq, Nat.reduceDiv, Nat.reduceMod, reduceCtorEq, sl1, wFacts, zA, qA, qC, vA, vC, nb_tf, nb_ft, nb_tt, nb_ff]
      exact fin rfl (by rw [hV, decide_eq_true h1, decide_eq_true h2]; rfl)
    · have f2 : (side c d a * side c d b < 0) = False := eq_false h2
      simp only [w2, f2, ↓wPre, wPost, wFast, wCore, beq_self_eq_true, ite_true, ite_false, false_implies, true_implies, implies_true, eq_self, ne_eq, ↓reduceIte, reduceIte, Nat.reducePow, Nat.reduceLT, Nat.reduceLeDiff, Nat.reduceEqDiff, Nat.reduceAdd, Nat.reduceMul, Nat.reduceSub, Nat.reduceBEq, Nat.reduceDiv, Nat.reduceMod, reduceCtorEq, sl1, wFacts, zA, qA, qC, vA, vC, nb_tf, nb_ft, nb_tt, nb_ff]
      rw [decide_eq_true h1, decide_eq_false h2] at hV
      refine call_fn d1 rfl ?_
      cases B1
      rotate_left
      · simp only [↓wPre, wPost, wFast, wCore, beq_self_eq_true, ite_true, ite_false, false_implies, true_implies, implies_true, eq_self, ne_eq, ↓reduceIte, reduceIte, Nat.reducePow, Nat.reduceLT, Nat.reduceLeDiff, Nat.reduceEqDiff, Nat.reduceAdd, Nat.reduceMul, Nat.reduceSub, Nat.reduceBEq, Nat.reduceDiv, Nat.reduceMod, reduceCtorEq, sl1, wFacts, zA, qA, qC, vA, vC, nb_tf, nb_ft, nb_tt, nb_ff]
        exact fin rfl (by rw [hV]; simp)
      simp only [↓wPre, wPost, wFast, wCore, beq_self_eq_true, ite_true, ite_false, false_implies, true_implies, implies_true, eq_self, ne_eq, ↓reduceIte, reduceIte, Nat.reducePow, Nat.reduceLT, Nat.reduceLeDiff, Nat.reduceEqDiff, Nat.reduceAdd, Nat.reduceMul, Nat.reduceSub, Nat.reduceBEq, Nat.reduceDiv, Nat.reduceMod, reduceCtorEq, sl1, wFacts, zA, qA, qC, vA, vC, nb_tf, nb_ft, nb_tt, nb_ff]
      refine call_fn d2 rfl ?_
      cases B2
      rotate_left
      · simp only [↓wPre, wPost, wFast, wCore, beq_self_eq_true, ite_true, ite_false, false_implies, true_implies, implies_true, eq_self, ne_eq, ↓reduceIte, reduceIte, Nat.reducePow, Nat.reduceLT, Nat.reduceLeDiff, Nat.reduceEqDiff, Nat.reduceAdd, Nat.reduceMul, Nat.reduceSub, Nat.reduceBEq, Nat.reduceDiv, Nat.reduceMod, reduceCtorEq, sl1, wFacts, zA, qA, qC, vA, vC, nb_tf, nb_ft, nb_tt, nb_ff]
        exact fin rfl (by rw [hV]; simp)
      simp only [↓wPre, wPost, wFast, wCore, beq_self_eq_true, ite_true, ite_false, false_implies, true_implies, implies_true, eq_self, ne_eq, ↓reduceIte, reduceIte, Nat.reducePow, Nat.reduceLT, Nat.reduceLeDiff, Nat.reduceEqDiff, Nat.reduceAdd, Nat.reduceMul, Nat.reduceSub, Nat.reduceBEq, Nat.reduceDiv, Nat.reduceMod, reduceCtorEq, sl1, wFacts, zA, qA, qC, vA, vC, nb_tf, nb_ft, nb_tt, nb_ff]
      refine call_fn d3 rfl ?_
      cases B3
      rotate_left
      · simp only [↓wPre, wPost, wFast, wCore, beq_self_eq_true, ite_true, ite_false, false_implies, true_implies, implies_true, eq_self, ne_eq, ↓reduceIte, reduceIte, Nat.reducePow, Nat.reduceLT, Nat.reduceLeDiff, Nat.reduceEqDiff, Nat.reduceAdd, Nat.reduceMul, Nat.reduceSub, Nat.reduceBEq, Nat.reduceDiv, Nat.reduceMod, reduceCtorEq, sl1, wFacts, zA, qA, qC, vA, vC, nb_tf, nb_ft, nb_tt, nb_ff]
        exact fin rfl (by rw [hV]; simp)
      simp only [↓wPre, wPost, wFast, wCore, beq_self_eq_true, ite_true, ite_false, false_implies, true_implies, implies_true, eq_self, ne_eq, ↓reduceIte, reduceIte, Nat.reducePow, Nat.reduceLT, Nat.reduceLeDiff, Nat.reduceEqDiff, Nat.reduceAdd, Nat.reduceMul, Nat.reduceSub, Nat.reduceBEq, Nat.reduceDiv, Nat.reduceMod, reduceCtorEq, sl1, wFacts, zA, qA, qC, vA, vC, nb_tf, nb_ft, nb_tt, nb_ff]
      refine call_fn d4 rfl ?_
      simp only [↓wPre, wPost, wFast, wCore, beq_self_eq_true, ite_true, ite_false, false_implies, true_implies, implies_true, eq_self, ne_eq, ↓reduceIte, reduceIte, Nat.reducePow, Nat.reduceLT, Nat.reduceLeDiff, Nat.reduceEqDiff, Nat.reduceAdd, Nat.reduceMul, Nat.reduceSub, Nat.reduceBEq, Nat.reduceDiv, Nat.reduceMod, reduceCtorEq, sl1, wFacts, zA, qA, qC, vA, vC, nb_tf, nb_ft, nb_tt, nb_ff]
      exact fin rfl (by rw [hV]; simp)
  · have f1 : (side a b c * side a b d < 0) = False := eq_false h1
    simp only [w1, f1, ↓wPre, wPost, wFast, wCore, beq_self_eq_true, ite_true, ite_false, false_implies, true_implies, implies_true, eq_self, ne_eq, ↓reduceIte, reduceIte, Nat.reducePow, Nat.reduceLT, Nat.reduceLeDiff, Nat.reduceEqDiff, Nat.reduceAdd, Nat.reduceMul, Nat.reduceSub, Nat.reduceBEq, Nat.reduceDiv, Nat.reduceMod, reduceCtorEq, sl1, wFacts, zA, qA, qC, vA, vC, nb_tf, nb_ft, nb_tt, nb_ff]
    rw [decide_eq_false h1] at hV
    refine call_fn d1 rfl ?_
    cases B1
    rotate_left
    · simp only [↓wPre, wPost, wFast, wCore, beq_self_eq_true, ite_true, ite_false, false_implies, true_implies, implies_true, eq_self, ne_eq, ↓reduceIte, reduceIte, Nat.reducePow, Nat.reduceLT, Nat.reduceLeDiff, Nat.reduceEqDiff, Nat.reduceAdd, Nat.reduceMul, Nat.reduceSub, Nat.reduceBEq, Nat.reduceDiv, Nat.reduceMod, reduceCtorEq, sl1, wFacts, zA, qA, qC, vA, vC, nb_tf, nb_ft, nb_tt, nb_ff]
      exact fin rfl (by rw [hV]; simp)
    simp only [↓wPre, wPost, wFast, wCore, beq_self_eq_true, ite_true, ite_false, false_implies, true_implies, implies_true, eq_self, ne_eq, ↓reduceIte, reduceIte, Nat.reducePow, Nat.reduceLT, Nat.reduceLeDiff, Nat.reduceEqDiff, Nat.reduceAdd, Nat.reduceMul, Nat.reduceSub, Nat.reduceBEq, Nat.reduceDiv, Nat.reduceMod, reduceCtorEq, sl1, wFacts, zA, qA, qC, vA, vC, nb_tf, nb_ft, nb_tt, nb_ff]
    refine call_fn d2 rfl ?_
    cases B2
    rotate_left
    · simp only [↓wPre, wPost, wFast, wCore, beq_self_eq_true, ite_true, ite_false, false_implies, true_implies, implies_true, eq_self, ne_eq, ↓reduceIte, reduceIte, Nat.reducePow, Nat.reduceLT, Nat.reduceLeDiff, Nat.reduceEqDiff, Nat.reduceAdd, Nat.reduceMul, Nat.reduceSub, Nat.reduceBEq, Nat.reduceDiv, Nat.reduceMod, reduceCtorEq, sl1, wFacts, zA, qA, qC, vA, vC, nb_tf, nb_ft, nb_tt, nb_ff]
      exact fin rfl (by rw [hV]; simp)
    simp only [↓wPre, wPost, wFast, wCore, beq_self_eq_true, ite_true, ite_false, false_implies, true_implies, implies_true, eq_self, ne_eq, ↓reduceIte, reduceIte, Nat.reducePow, Nat.reduceLT, Nat.reduceLeDiff, Nat.reduceEqDiff, Nat.reduceAdd, Nat.reduceMul, Nat.reduceSub, Nat.reduceBEq, Nat.reduceDiv, Nat.reduceMod, reduceCtorEq, sl1, wFacts, zA, qA, qC, vA, vC, nb_tf, nb_ft, nb_tt, nb_ff]
    refine call_fn d3 rfl ?_
    cases B3
    rotate_left
    · simp only [↓wPre, wPost, wFast, wCore, beq_self_eq_true, ite_true, ite_false, false_implies, true_implies, implies_true, eq_self, ne_eq, ↓reduceIte, reduceIte, Nat.reducePow, Nat.reduceLT, Nat.reduceLeDiff, Nat.reduceEqDiff, Nat.reduceAdd, Nat.reduceMul, Nat.reduceSub, Nat.reduceBEq, Nat.reduceDiv, Nat.reduceMod, reduceCtorEq, sl1, wFacts, zA, qA, qC, vA, vC, nb_tf, nb_ft, nb_tt, nb_ff]
      exact fin rfl (by rw [hV]; simp)
    simp only [↓wPre, wPost, wFast, wCore, beq_self_eq_true, ite_true, ite_false, false_implies, true_implies, implies_true, eq_self, ne_eq, ↓reduceIte, reduceIte, Nat.reducePow, Nat.reduceLT, Nat.reduceLeDiff, Nat.reduceEqDiff, Nat.reduceAdd, Nat.reduceMul, Nat.reduceSub, Nat.reduceBEq, Nat.reduceDiv, Nat.reduceMod, reduceCtorEq, sl1, wFacts, zA, qA, qC, vA, vC, nb_tf, nb_ft, nb_tt, nb_ff]
    refine call_fn d4 rfl ?_
    simp only [↓wPre, wPost, wFast, wCore, beq_self_eq_true, ite_true, ite_false, false_implies, true_implies, implies_true, eq_self, ne_eq, ↓reduceIte, reduceIte, Nat.reducePow, Nat.reduceLT, Nat.reduceLeDiff, Nat.reduceEqDiff, Nat.reduceAdd, Nat.reduceMul, Nat.reduceSub, Nat.reduceBEq, Nat.reduceDiv, Nat.reduceMod, reduceCtorEq, sl1, wFacts, zA, qA, qC, vA, vC, nb_tf, nb_ft, nb_tt, nb_ff]
    exact fin rfl (by rw [hV]; simp)
end
end Go.Ab.N

namespace Go.Ab.N
open Go Go.RowKit Go.Proofs
noncomputable section
set_option maxRecDepth 10000
set_option maxHeartbeats 2000000
set_option linter.unusedSimpArgs false
set_option linter.unusedVariables false
open Classical

/-! ### Lists of vectors -/
def v0 : V2 := ⟨0, 0⟩
def vecs (l : List V2) : AV := sls vC 8 v0 l
theorem settled_vecs (l : List V2) : Settled (vecs l) := settled_sls fun a x hx => by
  have : ∀ x ∈ vC a, Settled x := by simp [vC, settled_ints, settled_bool]
  exact this x hx
theorem vecs_def (l : List V2) : vecs l = .sl l.length (l.length * 8) (slFs vC 8 v0 l) false := nrfl rfl
theorem vF (l : List V2) (i : Nat) : slFs vC 8 v0 l (i * 8) = .bool (decide ((l.getD i v0).x.num < 0)) ∧ slFs vC 8 v0 l (i * 8 + 1) = ints (digs (l.getD i v0).x.num.natAbs) ∧ slFs vC 8 v0 l (i * 8 + 2) = .bool false ∧ slFs vC 8 v0 l (i * 8 + 3) = ints (digs (qd (l.getD i v0).x)) ∧
    slFs vC 8 v0 l (i * 8 + 4) = .bool (decide ((l.getD i v0).y.num < 0)) ∧ slFs vC 8 v0 l (i * 8 + 5) = ints (digs (l.getD i v0).y.num.natAbs) ∧ slFs vC 8 v0 l (i * 8 + 6) = .bool false ∧ slFs vC 8 v0 l (i * 8 + 7) = ints (digs (qd (l.getD i v0).y)) := by
  refine ⟨?_, ?_, ?_, ?_, ?_, ?_, ?_, ?_⟩
  · rw [slFs_at0 _ _ _ _ _ (by omega)]; rfl
  all_goals rw [slFs_at _ _ _ _ _ _ (by omega)]; rfl
theorem sides_fn (l : List V2) : Fn Try.prog 82 [vecs l] (.fn 94 [.ptr 1 (ofL [vecs l]) 0]) := by
  have hset : Settled (.fn 94 [.ptr 1 (ofL [vecs l]) 0]) := settled_fn (by
    intro a ha
    simp only [List.mem_cons, List.not_mem_nil, or_false] at ha
    rw [ha]
    exact settled_ptr fun j hj => by obtain rfl : j = 0 := by omega
                                     exact settled_vecs l)
  refine Fn.intro (fn := Try.f82) Try.call82 Try.func82 rfl mixed 4 [] [] [] (by kernel_rfl) (Nat.le_of_ble_eq_true rfl) (by simp [settled_vecs]) (vc_soundN 1000 ?_)
  simp only [AS.start, vecs_def, ↓wPre, wPost, wFast, wCore, beq_self_eq_true, ite_true, ite_false, false_implies, true_implies, implies_true, eq_self, ne_eq, ↓reduceIte, reduceIte, Nat.reducePow, Nat.reduceLT, Nat.reduceLeDiff, Nat.reduceEqDiff, Nat.reduceAdd, Nat.reduceMul, Nat.reduceSub, Nat.reduceBEq, Nat.reduceDiv, Nat.reduceMod, reduceCtorEq, sl1, wFacts, zA, qA, qC, vA, vC, wSeq, nb_tf, nb_ft, nb_tt, nb_ff]
  refine ret1 rfl (sees_fn ⟨sees_ref (.inl rfl) (by omega) fun j hj => ?_, trivial⟩)
  obtain rfl : j = 0 := by omega
  exact (settled_vecs l).sees _
theorem sides_iter (L : List V2) (t : Tok) (A B : Nat → AO) (hL : L.length < 1000000) (hy : ∀ i, i < L.length → YCall Try.prog t [vA (L.getD i v0), vA (L.getD ((i + 1) % L.length) v0)] [A i, B i] (.bool true) [A (i + 1), B (i + 1)])
    (hA : ∀ i, belO 2 (A i) ∧ A i ≠ .unborn ∧ ∀ v n f, A i ≠ .con v n f) (hB : ∀ i, belO 2 (B i) ∧ B i ≠ .unborn ∧ ∀ v n f, B i ≠ .con v n f) (hce : t.ce.H.length ≤ 2) :
    ICall Try.prog t 94 [.yld t.l, .ptr 1 (ofL [vecs L]) 0] [A 0, B 0] [A L.length, B L.length] := by
  have hAO : ∀ i, belO 2 (A i) = True := fun i => eq_true (hA i).1
  have hBO : ∀ i, belO 2 (B i) = True := fun i => eq_true (hB i).1
  refine ICall.intro (fn := Try.f94) Try.call94 Try.func94 rfl mixed 5 [5, 6, 7] [3, 40000004] [3] (by kernel_rfl) (Nat.le_of_ble_eq_true rfl) hce (by simp [hAO, hBO]) (vc_soundN 1000 ?_)
  simp only [AS.start, vecs_def, ↓wPre, wPost, wFast, wCore, beq_self_eq_true, ite_true, ite_false, false_implies, true_implies, implies_true, eq_self, ne_eq, ↓reduceIte, reduceIte, Nat.reducePow, Nat.reduceLT, Nat.reduceLeDiff, Nat.reduceEqDiff, Nat.reduceAdd, Nat.reduceMul, Nat.reduceSub, Nat.reduceBEq, Nat.reduceDiv, Nat.reduceMod, reduceCtorEq, sl1, wFacts, zA, qA, qC, vA, vC, wSeq, nb_tf, nb_ft, nb_tt, nb_ff]
  refine run_loop (fun i : Nat => ⟨5, [5, 6, 7], [.yld t.l, .ptr 1 (ofL [vecs L]) 0, .any, .any, .any], [(5, vecs L), (6, I L.length), (7, I i)], [A i, B i]⟩) (fun i => i ≤ L.length) (fun i => L.length - i) 0 (by omega)
    (sub_mk rfl (by simp [subL, vecs_def]) (by simp [subT, look, vecs_def, I]) rfl) ?_
  intro i hi next
  have w1 := wj i (by omega)
  by_cases hi2 : i < L.length
  · have f1 : ((i : Int) < L.length) = True := eq_true (by omega)
    have f2 : (i < L.length) = True := eq_true hi2
    have f3 : (i * 8 + 8 ≤ L.length * 8) = True := eq_true (by omega)
    have hm : ((i + 1 : Nat) : Int).tmod L.length = (((i + 1) % L.length : Nat) : Int) := rfl
    have hml : (i + 1) % L.length < L.length := Nat.mod_lt _ (by omega)
    have f4 : ((i + 1) % L.length < L.length) = True := eq_true hml
    have f5 : ((i + 1) % L.length * 8 + 8 ≤ L.length * 8) = True := eq_true (by omega)
    have f6 : ((L.length : Int) = 0) = False := eq_false (by omega)
    have f6' : (L.length = 0) = False := eq_false (by omega)
    have v1 := vF L i
    have v2 := vF L ((i + 1) % L.length)
    refine vc_soundN 1000 ?_
    simp only [vecs_def, w1, f1, f2, f3, f4, f5, f6, f6', hm, v1, v2, Int.toNat_natCast, ↓wPre, wPost, wFast, wCore, beq_self_eq_true, ite_true, ite_false, false_implies, true_implies, implies_true, eq_self, ne_eq, ↓reduceIte, reduceIte, Nat.reducePow, Nat.reduceLT, Nat.reduceLeDiff, Nat.reduceEqDiff, Nat.reduceAdd, Nat.reduceMul, Nat.reduceSub, Nat.reduceBEq, Nat.reduceDiv, Nat.reduceMod, reduceCtorEq, sl1, wFacts, zA, qA, qC, vA, vC, wSeq, nb_tf, nb_ft, nb_tt, nb_ff]
    refine call_yield (t := t) (H1 := [A i, B i]) (H1' := [A (i + 1), B (i + 1)]) rfl rfl (List.mem_singleton.2 rfl) (hy i hi2) rfl rfl hce ?_ ?_ ?_ ?_ ?_ ⟨Weak.rfl' _, Weak.rfl' _, trivial⟩ ?_
    · intro a ha
      simp only [List.mem_cons, List.not_mem_nil, or_false] at ha
      rcases ha with rfl | rfl <;> exact bel_of_settled (settled_vA _)
    · intro o ho
      simp only [List.mem_cons, List.not_mem_nil, or_false] at ho
      rcases ho with rfl | rfl
      · exact (hA i).1
      · exact (hB i).1
    · intro o ho
      simp only [List.mem_cons, List.not_mem_nil, or_false] at ho
      rcases ho with rfl | rfl
      · exact (hA i).2.1
      · exact (hB i).2.1
    · intro o ho
      simp only [List.mem_cons, List.not_mem_nil, or_false] at ho
      rcases ho with rfl | rfl
      · exact (hA (i + 1)).2.1
      · exact (hB (i + 1)).2.1
    · refine conEq_free ?_ ?_
      · intro o ho
        simp only [List.mem_cons, List.not_mem_nil, or_false] at ho
        rcases ho with rfl | rfl
        · exact (hA i).2.2
        · exact (hB i).2.2
      · intro o ho
        simp only [List.mem_cons, List.not_mem_nil, or_false] at ho
        rcases ho with rfl | rfl
        · exact (hA (i + 1)).2.2
        · exact (hB (i + 1)).2.2
    simp only [vecs_def, w1, ↓wPre, wPost, wFast, wCore, beq_self_eq_true, ite_true, ite_false, false_implies, true_implies, implies_true, eq_self, ne_eq, ↓reduceIte, reduceIte, Nat.reducePow, Nat.reduceLT, Nat.reduceLeDiff, Nat.reduceEqDiff, Nat.reduceAdd, Nat.reduceMul, Nat.reduceSub, Nat.reduceBEq, Nat.reduceDiv, Nat.reduceMod, reduceCtorEq, sl1, wFacts, zA, qA, qC, vA, vC, wSeq, nb_tf, nb_ft, nb_tt, nb_ff]
    have hbv : Bel 2 (vecs L) = True := eq_true (bel_of_settled (settled_vecs L))
    have hbp : Bel 2 (.ptr 1 (ofL [vecs L]) 0) = True := eq_true (bel_of_settled (settled_ptr fun j hj => by obtain rfl : j = 0 := by omega
                                                                                                             exact settled_vecs L))
    have hby : Bel 2 (.yld t.l) = True := eq_true fun c v hv => by cases hv; exact .yld _
    exact next (i + 1) _ (by omega) (by omega) (sub_cut (m := 2) (Nat.le_refl 2) rfl (by simp [vecs_def, subL, ints, sl1, I]) (by simp [vecs_def, subT, look, I]) rfl (by simp [hby, hbp, wBel]) (by simp [hbv, wBel]) (by simp [hAO, hBO]))
  · obtain rfl : i = L.length := by omega
    refine vc_soundN 1000 ?_
    simp only [vecs_def, Int.lt_irrefl, Nat.lt_irrefl, ↓wPre, wPost, wFast, wCore, beq_self_eq_true, ite_true, ite_false, false_implies, true_implies, implies_true, eq_self, ne_eq, ↓reduceIte, reduceIte, Nat.reducePow, Nat.reduceLT, Nat.reduceLeDiff, Nat.reduceEqDiff, Nat.reduceAdd, Nat.reduceMul, Nat.reduceSub, Nat.reduceBEq, Nat.reduceDiv, Nat.reduceMod, reduceCtorEq, sl1, wFacts, zA, qA, qC, vA, vC, wSeq, nb_tf, nb_ft, nb_tt, nb_ff]
    exact retI rfl rfl
/-- Twice the area, up to a side. -/
def areaS (L : List V2) : Nat → Rat
  | 0 => 0
  | i + 1 => areaS L i + cross (L.getD i v0) (L.getD ((i + 1) % L.length) v0)
def areaF (L : List V2) : Rat := areaS L L.length * Rat.divInt 1 2
def smallV (L : List V2) (k : Nat) : Prop := ∀ i, vb (L.getD i v0) ≤ k
theorem areaS_qb (L : List V2) (k : Nat) (h : smallV L k) : ∀ i, qb (areaS L i) ≤ (4 * k + 2) * i + 1
  | 0 => by have := qb_zero; simp only [areaS]; omega
  | i + 1 => by
    have ih := areaS_qb L k h i
    have h1 := qb_cross (L.getD i v0) (L.getD ((i + 1) % L.length) v0)
    have h2 := h i
    have h3 := h ((i + 1) % L.length)
    have h4 := qb_add (areaS L i) (cross (L.getD i v0) (L.getD ((i + 1) % L.length) v0))
    have e : (4 * k + 2) * (i + 1) = (4 * k + 2) * i + (4 * k + 2) := Nat.mul_succ _ _
    simp only [areaS]
    omega
theorem area_qb (L : List V2) (k : Nat) (h : smallV L k) (hk : k ≤ 1000) (hl : L.length ≤ 1000) : qb (areaS L L.length) ≤ 10000000 ∧ qb (areaF L) ≤ 10000000 := by
  have h1 := areaS_qb L k h L.length
  have h2 : (4 * k + 2) * L.length ≤ 4002 * 1000 := Nat.mul_le_mul (by omega) hl
  have h3 := qb_mul (areaS L L.length) (Rat.divInt 1 2)
  have h4 : qb (Rat.divInt 1 2) ≤ 3 := qb_divInt _ _ _ (by omega) (bl_i64 ⟨by omega, by omega⟩) (bl_i64 ⟨by omega, by omega⟩)
  unfold areaF
  omega
def areaA : AO := .row 0 4 (ofL [.bool false, .sl 0 0 (fun _ => .any) true, .bool false, .sl 0 0 (fun _ => .any) true])
def areaB (L : List V2) (i : Nat) : AO := .row 0 4 (ofL (qC (areaS L i)))
theorem area_fn (L : List V2) (k : Nat) (h : smallV L k) (hk : k ≤ 1000) (hl : L.length ≤ 1000) : Fn Try.prog 67 [vecs L] (qA (areaF L)) := by
  obtain ⟨R, hR⟩ : ∃ R, R = qA (areaF L) := ⟨_, rfl⟩
  have sR : Settled R := hR ▸ settled_qA _
  obtain ⟨q1, q2⟩ := area_qb L k h hk hl
  have cs := sides_fn L
  rw [← hR]
  refine Fn.intro (fn := Try.f67) Try.call67 Try.func67 rfl mixed 6 [8, 9] [] [] (by kernel_rfl) (Nat.le_of_ble_eq_true rfl) (by simp [settled_vecs]) (vc_soundN 1000 ?_)
  simp only [AS.start, vecs_def, ↓wPre, wPost, wFast, wCore, beq_self_eq_true, ite_true, ite_false, false_implies, true_implies, implies_true, eq_self, ne_eq, ↓reduceIte, reduceIte, Nat.reducePow, Nat.reduceLT, Nat.reduceLeDiff, Nat.reduceEqDiff, Nat.reduceAdd, Nat.reduceMul, Nat.reduceSub, Nat.reduceBEq, Nat.reduceDiv, Nat.reduceMod, reduceCtorEq, sl1, wFacts, zA, qA, qC, vA, vC, wSeq, nb_tf, nb_ft, nb_tt, nb_ff]
  refine call_fn cs rfl ?_
  simp only [↓wPre, wPost, wFast, wCore, beq_self_eq_true, ite_true, ite_false, false_implies, true_implies, implies_true, eq_self, ne_eq, ↓reduceIte, reduceIte, Nat.reducePow, Nat.reduceLT, Nat.reduceLeDiff, Nat.reduceEqDiff, Nat.reduceAdd, Nat.reduceMul, Nat.reduceSub, Nat.reduceBEq, Nat.reduceDiv, Nat.reduceMod, reduceCtorEq, sl1, wFacts, zA, qA, qC, vA, vC, wSeq, nb_tf, nb_ft, nb_tt, nb_ff]
  have bA : belO 2 areaA ∧ areaA ≠ .unborn ∧ ∀ v n f, areaA ≠ .con v n f := ⟨by simp [areaA, wBel], by simp [areaA], by simp [areaA]⟩
  have bB : ∀ i, belO 2 (areaB L i) ∧ areaB L i ≠ .unborn ∧ ∀ v n f, areaB L i ≠ .con v n f := fun i => ⟨by simp [areaB, qC, wBel], by simp [areaB], by simp [areaB]⟩
  refine Run.sub (s' := ⟨6, [8, 9], [vecs L, .any, .ref 0 0 0, .ref 1 0 0, .any, .any], [(7, .fn 94 [.ptr 1 (ofL [vecs L]) 0])], [areaA, areaB L 0]⟩) ?_ ((sub_roww 1 (ofL (qC 0)) rfl fun j hj => ?_).trans (sub_mk rfl (by simp [subL, vecs_def]) (by simp [subT, look]) (by simp [areaA, areaB, areaS])))
  rotate_left
  · match j, hj with
    | 0, _ => exact weakIn_rfl _ _
    | 1, _ => exact weakIn_of (weak_empE (by rw [Rat.zero_num]; simp [digs_zero]))
    | 2, _ => exact weakIn_rfl _ _
    | 3, _ => exact weakIn_of (weak_empE (qd_one rfl))
    | j + 4, h => omega
  refine run_rangeFunc (gf := 94) (caps := [.ptr 1 (ofL [vecs L]) 0]) (Hn := [areaA, areaB L L.length]) rfl rfl rfl (fun t ht => ?_) ?_
  · refine sides_iter L t (fun _ => areaA) (areaB L) (by omega) (fun i hi => ?_) (fun _ => bA) bB (by rw [ht.ch]; exact Nat.le_refl _)
    have hc := pcross_fn (L.getD i v0) (L.getD ((i + 1) % L.length) v0) (by have := h i; unfold vm; omega) (by have := h ((i + 1) % L.length); unfold vm; omega)
    have b1 := areaS_qb L k h i
    have b2 : (4 * k + 2) * i ≤ 4002 * 1000 := Nat.mul_le_mul (by omega) (by omega)
    have b3 := qb_cross (L.getD i v0) (L.getD ((i + 1) % L.length) v0)
    have b4 := h i
    have b5 := h ((i + 1) % L.length)
    have ha := radd_fn (areaS L i) (cross (L.getD i v0) (L.getD ((i + 1) % L.length) v0)) (by unfold rm; omega) (by unfold rm; omega)
    refine yield_intro (str := []) (hcs := []) ht mixed (by kernel_rfl) (by kernel_rfl) rfl (fun p hp => ?_) (fun o ho => ?_) (fun l r hr => ?_)
    · have hp' : p = 8 ∨ p = 9 := by simpa using hp
      rcases hp' with rfl | rfl <;> exact Nat.le_of_ble_eq_true rfl
    · simp only [List.mem_cons, List.not_mem_nil, or_false] at ho
      rcases ho with rfl | rfl
      · exact bA.1
      · exact (bB (i + 1)).1
    show Run _ _ ⟨6, [8, 9], [vecs L, .any, .ref 0 0 0, .ref 1 0 0, .any, .any], [(9, vA (L.getD ((i + 1) % L.length) v0)), (8, vA (L.getD i v0)), (7, .fn 94 [.ptr 1 (ofL [vecs L]) 0])], [areaA, areaB L i]⟩
    refine vc_soundN 1000 ?_
    simp only [areaA, areaB, ↓wPre, wPost, wFast, wCore, beq_self_eq_true, ite_true, ite_false, false_implies, true_implies, implies_true, eq_self, ne_eq, ↓reduceIte, reduceIte, Nat.reducePow, Nat.reduceLT, Nat.reduceLeDiff, Nat.reduceEqDiff, Nat.reduceAdd, Nat.reduceMul, Nat.reduceSub, Nat.reduceBEq, Nat.reduceDiv, Nat.reduceMod, reduceCtorEq, sl1, wFacts, zA, qA, qC, vA, vC, wSeq, nb_tf, nb_ft, nb_tt, nb_ff]
    refine envR_begin hr ?_
    refine vc_soundN 1000 ?_
    simp only [↓wPre, wPost, wFast, wCore, beq_self_eq_true, ite_true, ite_false, false_implies, true_implies, implies_true, eq_self, ne_eq, ↓reduceIte, reduceIte, Nat.reducePow, Nat.reduceLT, Nat.reduceLeDiff, Nat.reduceEqDiff, Nat.reduceAdd, Nat.reduceMul, Nat.reduceSub, Nat.reduceBEq, Nat.reduceDiv, Nat.reduceMod, reduceCtorEq, sl1, wFacts, zA, qA, qC, vA, vC, wSeq, nb_tf, nb_ft, nb_tt, nb_ff]
    refine call_fn hc rfl ?_
    simp only [↓wPre, wPost, wFast, wCore, beq_self_eq_true, ite_true, ite_false, false_implies, true_implies, implies_true, eq_self, ne_eq, ↓reduceIte, reduceIte, Nat.reducePow, Nat.reduceLT, Nat.reduceLeDiff, Nat.reduceEqDiff, Nat.reduceAdd, Nat.reduceMul, Nat.reduceSub, Nat.reduceBEq, Nat.reduceDiv, Nat.reduceMod, reduceCtorEq, sl1, wFacts, zA, qA, qC, vA, vC, wSeq, nb_tf, nb_ft, nb_tt, nb_ff]
    refine call_fn ha rfl ?_
    simp only [↓wPre, wPost, wFast, wCore, beq_self_eq_true, ite_true, ite_false, false_implies, true_implies, implies_true, eq_self, ne_eq, ↓reduceIte, reduceIte, Nat.reducePow, Nat.reduceLT, Nat.reduceLeDiff, Nat.reduceEqDiff, Nat.reduceAdd, Nat.reduceMul, Nat.reduceSub, Nat.reduceBEq, Nat.reduceDiv, Nat.reduceMod, reduceCtorEq, sl1, wFacts, zA, qA, qC, vA, vC, wSeq, nb_tf, nb_ft, nb_tt, nb_ff]
    exact retR rfl
  · refine vc_soundN 1000 ?_
    simp only [areaA, areaB, ↓wPre, wPost, wFast, wCore, beq_self_eq_true, ite_true, ite_false, false_implies, true_implies, implies_true, eq_self, ne_eq, ↓reduceIte, reduceIte, Nat.reducePow, Nat.reduceLT, Nat.reduceLeDiff, Nat.reduceEqDiff, Nat.reduceAdd, Nat.reduceMul, Nat.reduceSub, Nat.reduceBEq, Nat.reduceDiv, Nat.reduceMod, reduceCtorEq, sl1, wFacts, zA, qA, qC, vA, vC, wSeq, nb_tf, nb_ft, nb_tt, nb_ff]
    refine call_fn (rof_fn 1 2 ⟨by omega, by omega⟩ ⟨by omega, by omega⟩) rfl ?_
    simp only [↓wPre, wPost, wFast, wCore, beq_self_eq_true, ite_true, ite_false, false_implies, true_implies, implies_true, eq_self, ne_eq, ↓reduceIte, reduceIte, Nat.reducePow, Nat.reduceLT, Nat.reduceLeDiff, Nat.reduceEqDiff, Nat.reduceAdd, Nat.reduceMul, Nat.reduceSub, Nat.reduceBEq, Nat.reduceDiv, Nat.reduceMod, reduceCtorEq, sl1, wFacts, zA, qA, qC, vA, vC, wSeq, nb_tf, nb_ft, nb_tt, nb_ff]
    have hm := rmul_fn (areaS L L.length) (Rat.divInt 1 2) (by unfold rm; omega) (by
      have : qb (Rat.divInt 1 2) ≤ 3 := qb_divInt _ _ _ (by omega) (bl_i64 ⟨by omega, by omega⟩) (bl_i64 ⟨by omega, by omega⟩)
      unfold rm; omega)
    rw [show areaS L L.length * Rat.divInt 1 2 = areaF L from rfl, ← hR] at hm
    refine call_fn hm rfl ?_
    simp only [hR, ↓wPre, wPost, wFast, wCore, beq_self_eq_true, ite_true, ite_false, false_implies, true_implies, implies_true, eq_self, ne_eq, ↓reduceIte, reduceIte, Nat.reducePow, Nat.reduceLT, Nat.reduceLeDiff, Nat.reduceEqDiff, Nat.reduceAdd, Nat.reduceMul, Nat.reduceSub, Nat.reduceBEq, Nat.reduceDiv, Nat.reduceMod, reduceCtorEq, sl1, wFacts, zA, qA, qC, vA, vC, wSeq, nb_tf, nb_ft, nb_tt, nb_ff]
    exact retA rfl ldk44 rfl rfl rfl sR (hR.trans rfl)
end
end Go.Ab.N

