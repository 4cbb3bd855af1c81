/- Contracts of functions of these chapters, for every argument that fits, and what they need. -/
import Derived.Test.YtefjhgcndhepeaaC10
import Derived.Test.YtefjhgcndhepeaaC8
import Derived.Test.YtefjhgcndhepeaaAb4
import Derived.Deep.Slices
set_option linter.unusedSimpArgs false
set_option linter.unusedVariables false
namespace Go.Ab.N
open Go Go.RowKit Go.Proofs
noncomputable section
set_option maxRecDepth 10000
set_option maxHeartbeats 4000000
set_option linter.unusedSimpArgs false
set_option linter.unusedVariables false
open Classical

/-! ### Debts, as the law compares them -/
theorem dC_one (d : Int × Int × Int) (j : Nat) (hj : j < 3) : ([AV.int .i64 d.1, .int .i64 d.2.1, .int .i64 d.2.2].getD j .any).one = true := by
  match j, hj with
  | 0, _ => rfl
  | 1, _ => rfl
  | 2, _ => rfl
  | j + 3, h => omega
theorem plain_fn (l : List (Int × Int × Int)) (hl : l.length < 1000000) : Fn Try.prog 6 [debts l] (debts l) := by
  obtain ⟨R, hR⟩ : ∃ R, R = debts l := ⟨_, rfl⟩
  refine Fn.intro (fn := Try.f6) Try.call6 Try.func6 rfl mixed 5 [] [] [] (by kernel_rfl) (Nat.le_of_ble_eq_true rfl) (by simp [settled_debts]) (vc_soundN 1000 ?_)
  simp only [AS.start, debts_def, ↓wPre, wPost, wFast, wCore, beq_self_eq_true, ite_true, ite_false, false_implies, true_implies, implies_true, eq_self, ne_eq, ↓reduceIte, reduceIte, Nat.reducePow, Nat.reduceLT, Nat.reduceLeDiff, Nat.reduceEqDiff, Nat.reduceAdd, Nat.reduceMul, Nat.reduceSub, Nat.reduceBEq, Nat.reduceDiv, Nat.reduceMod, reduceCtorEq, sl1, wFacts, zA, qA, qC, vA, vC, pts_def, bools_def, wSeq, nb_tf, nb_ft, nb_tt, nb_ff]
  refine run_loop (fun i : Nat => ⟨5, [], [debts l, .any, .any, .osl 0 i 3 0 i, I i], [], [.row i (i * 3) (slFs dC 3 (0, 0, 0) (l.take i))]⟩) (fun i => i ≤ l.length) (fun i => l.length - i) 0 (by omega)
    ((sub_adopt 3 3 (slFs dC 3 (0, 0, 0) []) rfl).trans (sub_mk rfl (by simp [AS.put, subL, debts_def, I]) (by simp [AS.put, subT]) (by simp [AS.put]))) ?_
  intro i hi next
  have w1 := wj i (by omega)
  by_cases hi2 : i < l.length
  · have f1 : ((i : Int) < l.length) = True := eq_true (by omega)
    have f2 : (i < l.length) = True := eq_true hi2
    have f3 : (i * 3 + 3 ≤ l.length * 3) = True := eq_true (by omega)
    have f4 : (i * 3 < l.length * 3) = True := eq_true (by omega)
    have v1 := dF l i
    have hap := appFs_one dC 3 (0, 0, 0) (l.take i) (l.getD i (0, 0, 0)) (by omega)
    have hlen : (l.take i).length = i := by simp; omega
    rw [hlen, ← take_succD _ _ hi2] at hap
    refine vc_soundN 1000 ?_
    simp only [debts_def, w1, f1, f2, f3, f4, v1, Int.toNat_natCast, ↓wPre, wPost, wFast, wCore, beq_self_eq_true, ite_true, ite_false, false_implies, true_implies, implies_true, eq_self, ne_eq, ↓reduceIte, reduceIte, Nat.reducePow, Nat.reduceLT, Nat.reduceLeDiff, Nat.reduceEqDiff, Nat.reduceAdd, Nat.reduceMul, Nat.reduceSub, Nat.reduceBEq, Nat.reduceDiv, Nat.reduceMod, reduceCtorEq, sl1, wFacts, zA, qA, qC, vA, vC, pts_def, bools_def, wSeq, nb_tf, nb_ft, nb_tt, nb_ff]
    exact ⟨by omega, by omega, ⟨fun j hj => dC_one _ j hj, by omega, by omega⟩, next (i + 1) _ (by omega) (by omega) (sub_mk rfl (by simp [subL, debts_def, I]) (by simp [subT]) (by rw [← hap]; rfl))⟩
  obtain rfl : i = l.length := by omega
  refine vc_soundN 1000 ?_
  simp only [debts_def, Int.lt_irrefl, Nat.lt_irrefl, ↓wPre, wPost, wFast, wCore, beq_self_eq_true, ite_true, ite_false, false_implies, true_implies, implies_true, eq_self, ne_eq, ↓reduceIte, reduceIte, Nat.reducePow, Nat.reduceLT, Nat.reduceLeDiff, Nat.reduceEqDiff, Nat.reduceAdd, Nat.reduceMul, Nat.reduceSub, Nat.reduceBEq, Nat.reduceDiv, Nat.reduceMod, reduceCtorEq, sl1, wFacts, zA, qA, qC, vA, vC, pts_def, bools_def, wSeq, nb_tf, nb_ft, nb_tt, nb_ff]
  refine ret1 rfl ?_
  refine sees_osl (n := l.length) (.inl rfl) (by omega) (fun h => by rw [h]) fun j hj => ?_
  rw [Nat.zero_add, List.take_length]
  exact (settled_cells (settled_dC _) _).sees _
theorem same_fn36 (a b : List (Int × Int × Int)) (la : a.length < 1000000) (lb : b.length < 1000000) : Fn Try.prog 5 [debts a, debts b] (.bool (decide (a = b))) := by
  obtain ⟨V, hV⟩ : ∃ V, V = decide (a = b) := ⟨_, rfl⟩
  rw [← hV]
  refine Fn.intro (fn := Try.f5) Try.call5 Try.func5 rfl mixed 6 [] [] [] (by kernel_rfl) (Nat.le_of_ble_eq_true rfl) (by simp [settled_debts]) (vc_soundN 1000 ?_)
  by_cases hl : a.length = b.length
  rotate_left
  · have f1 : ((a.length : Int) = b.length) = False := eq_false (by omega)
    have f1' : (a.length = b.length) = False := eq_false hl
    simp only [AS.start, debts_def, f1, f1', ↓wPre, wPost, wFast, wCore, beq_self_eq_true, ite_true, ite_false, false_implies, true_implies, implies_true, eq_self, ne_eq, ↓reduceIte, reduceIte, Nat.reducePow, Nat.reduceLT, Nat.reduceLeDiff, Nat.reduceEqDiff, Nat.reduceAdd, Nat.reduceMul, Nat.reduceSub, Nat.reduceBEq, Nat.reduceDiv, Nat.reduceMod, reduceCtorEq, sl1, wFacts, zA, qA, qC, vA, vC, pts_def, bools_def, wSeq, nb_tf, nb_ft, nb_tt, nb_ff]
    refine ret1E (v := .bool false) rfl rfl (settled_bool _) ?_
    rw [hV, decide_eq_false fun e => hl (by rw [e])]
  have f1 : ((a.length : Int) = b.length) = True := eq_true (by omega)
  have f1' : (a.length = b.length) = True := eq_true hl
  simp only [AS.start, debts_def, f1, f1', ↓wPre, wPost, wFast, wCore, beq_self_eq_true, ite_true, ite_false, false_implies, true_implies, implies_true, eq_self, ne_eq, ↓reduceIte, reduceIte, Nat.reducePow, Nat.reduceLT, Nat.reduceLeDiff, Nat.reduceEqDiff, Nat.reduceAdd, Nat.reduceMul, Nat.reduceSub, Nat.reduceBEq, Nat.reduceDiv, Nat.reduceMod, reduceCtorEq, sl1, wFacts, zA, qA, qC, vA, vC, pts_def, bools_def, wSeq, nb_tf, nb_ft, nb_tt, nb_ff]
  refine run_loop (fun j : Nat => ⟨6, [], [debts a, debts b, .any, .any, .any, I j], [], []⟩) (fun j => j ≤ a.length ∧ ∀ i, i < j → a.getD i (0, 0, 0) = b.getD i (0, 0, 0)) (fun j => a.length - j) 0 ⟨by omega, by omega⟩
    (sub_mk rfl (by simp [subL, debts_def, I, hl]) (by simp [subT]) rfl) ?_
  rintro j ⟨hj, hno⟩ next
  have w1 := wj j (by omega)
  by_cases hj2 : j < a.length
  rotate_left
  · have f2 : ((j : Int) < a.length) = False := eq_false (by omega)
    have f3 : (j < a.length) = False := eq_false hj2
    refine vc_soundN 1000 ?_
    simp only [debts_def, w1, f2, f3, ↓wPre, wPost, wFast, wCore, beq_self_eq_true, ite_true, ite_false, false_implies, true_implies, implies_true, eq_self, ne_eq, ↓reduceIte, reduceIte, Nat.reducePow, Nat.reduceLT, Nat.reduceLeDiff, Nat.reduceEqDiff, Nat.reduceAdd, Nat.reduceMul, Nat.reduceSub, Nat.reduceBEq, Nat.reduceDiv, Nat.reduceMod, reduceCtorEq, sl1, wFacts, zA, qA, qC, vA, vC, pts_def, bools_def, wSeq, nb_tf, nb_ft, nb_tt, nb_ff]
    refine ret1E (v := .bool true) rfl rfl (settled_bool _) ?_
    rw [hV, decide_eq_true]
    refine List.ext_getElem hl fun i h1 h2 => ?_
    have := hno i (by omega)
    rw [List.getD_eq_getElem?_getD, List.getElem?_eq_getElem h1, List.getD_eq_getElem?_getD, List.getElem?_eq_getElem h2] at this
    exact this
  have f2 : ((j : Int) < a.length) = True := eq_true (by omega)
  have f3 : (j < a.length) = True := eq_true hj2
  have f4 : (j < b.length) = True := eq_true (by omega)
  have f5 : (j * 3 + 3 ≤ a.length * 3) = True := eq_true (by omega)
  have f6 : (j * 3 + 3 ≤ b.length * 3) = True := eq_true (by omega)
  have v1 := dF a j
  have v2 := dF b j
  by_cases he : a.getD j (0, 0, 0) = b.getD j (0, 0, 0)
  · have g1 : ((a.getD j (0, 0, 0)).1 = (b.getD j (0, 0, 0)).1) = True := eq_true (by rw [he])
    have g2 : ((a.getD j (0, 0, 0)).2.1 = (b.getD j (0, 0, 0)).2.1) = True := eq_true (by rw [he])
    have g3 : ((a.getD j (0, 0, 0)).2.2 = (b.getD j (0, 0, 0)).2.2) = True := eq_true (by rw [he])
    refine vc_soundN 1000 ?_
    simp only [debts_def, w1, f2, f3, f4, f5, f6, v1, v2, g1, g2, g3, ↓wPre, wPost, wFast, wCore, beq_self_eq_true, ite_true, ite_false, false_implies, true_implies, implies_true, eq_self, ne_eq, ↓reduceIte, reduceIte, Nat.reducePow, Nat.reduceLT, Nat.reduceLeDiff, Nat.reduceEqDiff, Nat.reduceAdd, Nat.reduceMul, Nat.reduceSub, Nat.reduceBEq, Nat.reduceDiv, Nat.reduceMod, reduceCtorEq, sl1, wFacts, zA, qA, qC, vA, vC, pts_def, bools_def, wSeq, nb_tf, nb_ft, nb_tt, nb_ff]
    refine next (j + 1) _ ⟨by omega, fun i hi => ?_⟩ (by omega) (sub_mk rfl (by simp [subL, debts_def, I]) (by simp [subT]) rfl)
    by_cases e : i = j
    · rw [e]; exact he
    · exact hno i (by omega)
  · have bad : false = V := by rw [hV, decide_eq_false fun e => he (by rw [e])]
    refine vc_soundN 1000 ?_
    by_cases g1 : (a.getD j (0, 0, 0)).1 = (b.getD j (0, 0, 0)).1
    · have k1 : ((a.getD j (0, 0, 0)).1 = (b.getD j (0, 0, 0)).1) = True := eq_true g1
      by_cases g2 : (a.getD j (0, 0, 0)).2.1 = (b.getD j (0, 0, 0)).2.1
      · have k2 : ((a.getD j (0, 0, 0)).2.1 = (b.getD j (0, 0, 0)).2.1) = True := eq_true g2
        have k3 : ((a.getD j (0, 0, 0)).2.2 = (b.getD j (0, 0, 0)).2.2) = False := eq_false fun g3 => he (Prod.ext g1 (Prod.ext g2 g3))
        simp only [debts_def, w1, f2, f3, f4, f5, f6, v1, v2, k1, k2, k3, ↓wPre, wPost, wFast, wCore, beq_self_eq_true, ite_true, ite_false, false_implies, true_implies, implies_true, eq_self, ne_eq, ↓reduceIte, reduceIte, Nat.reducePow, Nat.reduceLT, Nat.reduceLeDiff, Nat.reduceEqDiff, Nat.reduceAdd, Nat.reduceMul, Nat.reduceSub, Nat.reduceBEq, Nat.reduceDiv, Nat.reduceMod, reduceCtorEq, sl1, wFacts, zA, qA, qC, vA, vC, pts_def, bools_def, wSeq, nb_tf, nb_ft, nb_tt, nb_ff]
        exact ret1E (v := .bool false) rfl rfl (settled_bool _) (by rw [bad])
      · have k2 : ((a.getD j (0, 0, 0)).2.1 = (b.getD j (0, 0, 0)).2.1) = False := eq_false g2
        simp only [debts_def, w1, f2, f3, f4, f5, f6, v1, v2, k1, k2, ↓wPre, wPost, wFast, wCore, beq_self_eq_true, ite_true, ite_false, false_implies, true_implies, implies_true, eq_self, ne_eq, ↓reduceIte, reduceIte, Nat.reducePow, Nat.reduceLT, Nat.reduceLeDiff, Nat.reduceEqDiff, Nat.reduceAdd, Nat.reduceMul, Nat.reduceSub, Nat.reduceBEq, Nat.reduceDiv, Nat.reduceMod, reduceCtorEq, sl1, wFacts, zA, qA, qC, vA, vC, pts_def, bools_def, wSeq, nb_tf, nb_ft, nb_tt, nb_ff]
        exact ret1E (v := .bool false) rfl rfl (settled_bool _) (by rw [bad])
    · have k1 : ((a.getD j (0, 0, 0)).1 = (b.getD j (0, 0, 0)).1) = False := eq_false g1
      simp only [debts_def, w1, f2, f3, f4, f5, f6, v1, v2, k1, ↓wPre, wPost, wFast, wCore, beq_self_eq_true, ite_true, ite_false, false_implies, true_implies, implies_true, eq_self, ne_eq, ↓reduceIte, reduceIte, Nat.reducePow, Nat.reduceLT, Nat.reduceLeDiff, Nat.reduceEqDiff, Nat.reduceAdd, Nat.reduceMul, Nat.reduceSub, Nat.reduceBEq, Nat.reduceDiv, Nat.reduceMod, reduceCtorEq, sl1, wFacts, zA, qA, qC, vA, vC, pts_def, bools_def, wSeq, nb_tf, nb_ft, nb_tt, nb_ff]
      exact ret1E (v := .bool false) rfl rfl (settled_bool _) (by rw [bad])
/-- The reference's debts. -/
theorem refdebts_fn (js : List (Int × Int)) (ps : List Int) (hj : js.length < 100000) (hp : ps.length < 9223372036854775808) : Fn Try.prog 7 [pts js, ints ps] (debts (debtsN js ps js.length)) := by
  obtain ⟨R, hR⟩ : ∃ R, R = debts (debtsN js ps js.length) := ⟨_, rfl⟩
  have sR : Settled R := hR ▸ settled_debts _
  have z0 : ((0 : Int) < ((2 : Nat) : Int)) = True := eq_true (by omega)
  have z1 : ((1 : Int) < ((2 : Nat) : Int)) = True := eq_true (by omega)
  have y0 : IntKind.i64.wrap (0 + 1) = 1 := by decide
  have y1 : IntKind.i64.wrap (1 + 1) = 2 := by decide
  rw [← hR]
  refine Fn.intro (fn := Try.f7) Try.call7 Try.func7 rfl mixed 9 [] [] [] (by kernel_rfl) (Nat.le_of_ble_eq_true rfl) (by simp [settled_pts, settled_ints]) (vc_soundN 1000 ?_)
  simp only [AS.start, ↓wPre, wPost, wFast, wCore, beq_self_eq_true, ite_true, ite_false, false_implies, true_implies, implies_true, eq_self, ne_eq, ↓reduceIte, reduceIte, Nat.reducePow, Nat.reduceLT, Nat.reduceLeDiff, Nat.reduceEqDiff, Nat.reduceAdd, Nat.reduceMul, Nat.reduceSub, Nat.reduceBEq, Nat.reduceDiv, Nat.reduceMod, reduceCtorEq, sl1, wFacts, zA, qA, qC, vA, vC, pts_def, bools_def, wSeq, nb_tf, nb_ft, nb_tt, nb_ff]
  let S : Nat → List (Int × Int × Int) → AV → AS := fun i D q => ⟨9, [], [pts js, ints ps, .any, .any, .any, .osl 0 D.length 3 0 D.length, I i, q, .any], [], [.row D.length (D.length * 3) (slFs dC 3 (0, 0, 0) D)]⟩
  refine run_loop (fun i : Nat => S i (debtsN js ps i) .any) (fun i => i ≤ js.length) (fun i => js.length - i) 0 (by omega)
    ((sub_adopt 5 3 (slFs dC 3 (0, 0, 0) []) rfl).trans (sub_mk rfl (by simp [S, AS.put, subL, pts_def, ints_def, I, debtsN]) (by simp [S, AS.put, subT]) (by simp [S, AS.put, debtsN]))) ?_
  intro i hi next
  have w1 := wj i (by omega)
  by_cases hi2 : i < js.length
  rotate_left
  · obtain rfl : i = js.length := by omega
    refine vc_soundN 1000 ?_
    simp only [S, pts_def, ints_def, Int.lt_irrefl, Nat.lt_irrefl, ↓wPre, wPost, wFast, wCore, beq_self_eq_true, ite_true, ite_false, false_implies, true_implies, implies_true, eq_self, ne_eq, ↓reduceIte, reduceIte, Nat.reducePow, Nat.reduceLT, Nat.reduceLeDiff, Nat.reduceEqDiff, Nat.reduceAdd, Nat.reduceMul, Nat.reduceSub, Nat.reduceBEq, Nat.reduceDiv, Nat.reduceMod, reduceCtorEq, sl1, wFacts, zA, qA, qC, vA, vC, pts_def, bools_def, wSeq, nb_tf, nb_ft, nb_tt, nb_ff]
    refine ret1 rfl ?_
    rw [hR, debts_def]
    refine sees_osl (n := (debtsN js ps js.length).length) (.inl rfl) (by omega) (fun h => by rw [h]) fun j hj => ?_
    rw [Nat.zero_add]
    exact (settled_cells (settled_dC _) _).sees _
  have f1 : ((i : Int) < js.length) = True := eq_true (by omega)
  have f2 : (i < js.length) = True := eq_true hi2
  refine vc_soundN 1000 ?_
  simp only [S, pts_def, ints_def, f1, f2, ↓wPre, wPost, wFast, wCore, beq_self_eq_true, ite_true, ite_false, false_implies, true_implies, implies_true, eq_self, ne_eq, ↓reduceIte, reduceIte, Nat.reducePow, Nat.reduceLT, Nat.reduceLeDiff, Nat.reduceEqDiff, Nat.reduceAdd, Nat.reduceMul, Nat.reduceSub, Nat.reduceBEq, Nat.reduceDiv, Nat.reduceMod, reduceCtorEq, sl1, wFacts, zA, qA, qC, vA, vC, pts_def, bools_def, wSeq, nb_tf, nb_ft, nb_tt, nb_ff]
  have hdl := debtsN_len js ps i
  have h1 := owes_len ps i (js.getD i (0, 0)).1
  let Dm : Nat → List (Int × Int × Int) := fun m => match m with
    | 0 => debtsN js ps i
    | 1 => debtsN js ps i ++ owes ps i (js.getD i (0, 0)).1
    | _ => debtsN js ps (i + 1)
  have hD2 : debtsN js ps i ++ owes ps i (js.getD i (0, 0)).1 ++ owes ps i (js.getD i (0, 0)).2 = debtsN js ps (i + 1) := by simp only [debtsN, owesP, List.append_assoc]
  have f3 : (i * 2 < js.length * 2) = True := eq_true (by omega)
  have f4 : (i * 2 + 1 < js.length * 2) = True := eq_true (by omega)
  have f5 : (i * 2 + 2 ≤ js.length * 2) = True := eq_true (by omega)
  have v1 := ptF js i
  have t1 : (1 : Int).toNat = 1 := rfl
  have hS : True = True := rfl
  refine run_loop (fun m : Nat => S i (Dm m) (I m)) (fun m => m ≤ 2) (fun m => 2 - m) 0 (by omega)
    (sub_mk rfl (by simp [S, Dm, subL, pts_def, ints_def, I]) (by simp [S, subT]) rfl) ?_
  intro m hm nextm
  have hcase : m = 0 ∨ m = 1 ∨ m = 2 := by omega
  rcases hcase with rfl | rfl | rfl
  rotate_right
  · have e2 : ((2 : Nat) : Int) = 2 := rfl
    refine vc_soundN 1000 ?_
    simp only [S, e2, Int.lt_irrefl, w1, ↓wPre, wPost, wFast, wCore, beq_self_eq_true, ite_true, ite_false, false_implies, true_implies, implies_true, eq_self, ne_eq, ↓reduceIte, reduceIte, Nat.reducePow, Nat.reduceLT, Nat.reduceLeDiff, Nat.reduceEqDiff, Nat.reduceAdd, Nat.reduceMul, Nat.reduceSub, Nat.reduceBEq, Nat.reduceDiv, Nat.reduceMod, reduceCtorEq, sl1, wFacts, zA, qA, qC, vA, vC, pts_def, bools_def, wSeq, nb_tf, nb_ft, nb_tt, nb_ff]
    exact next (i + 1) _ (by omega) (by omega) (sub_mk rfl (by simp [S, Dm, subL, pts_def, ints_def, I]) (by simp [S, subT]) rfl)
  · have nx : ∀ s', 1 ≤ 2 → 2 - 1 < 2 - 0 → Sub 0 s' (S i (debtsN js ps i ++ owes ps i (js.getD i (0, 0)).1) (I 1)) → Run _ _ s' := fun s' h1 h2 h3 => nextm 1 s' h1 h2 h3
    have e0 : ((0 : Nat) : Int) = 0 := rfl
    show Run _ _ (S i (debtsN js ps i) (I 0))
    have w : ∀ D, D = debtsN js ps i → D.length < 1000000 := fun D h => by rw [h]; omega
    have hn := w _ rfl
    obtain ⟨D, eD⟩ : ∃ D, D = debtsN js ps i := ⟨_, rfl⟩
    obtain ⟨D1, eD1⟩ : ∃ D1, D1 = debtsN js ps i ++ owes ps i (js.getD i (0, 0)).1 := ⟨_, rfl⟩
    have hd : D ++ owes ps i (js.getD i (0, 0)).1 = D1 := by rw [eD, eD1]
    rw [← eD1] at nx
    rw [← eD] at hn ⊢
    by_cases g0 : (js.getD i (0, 0)).1 < 0
    · have k0 : ((js.getD i (0, 0)).1 < 0) = True := eq_true g0
      have ho : owes ps i (js.getD i (0, 0)).1 = [] := by unfold owes standN; rw [if_neg (by omega)]
      rw [ho, List.append_nil] at hd
      rw [← hd] at nx
      refine vc_soundN 1000 ?_
      simp only [S, pts_def, ints_def, f1, f2, f3, f4, f5, v1, z0, z1, y0, y1, Nat.add_zero, Int.toNat_natCast, Int.toNat_zero, Int.reduceLT, Int.reduceLE, t1, k0, ↓wPre, wPost, wFast, wCore, beq_self_eq_true, ite_true, ite_false, false_implies, true_implies, implies_true, eq_self, ne_eq, ↓reduceIte, reduceIte, Nat.reducePow, Nat.reduceLT, Nat.reduceLeDiff, Nat.reduceEqDiff, Nat.reduceAdd, Nat.reduceMul, Nat.reduceSub, Nat.reduceBEq, Nat.reduceDiv, Nat.reduceMod, reduceCtorEq, sl1, wFacts, zA, qA, qC, vA, vC, pts_def, bools_def, wSeq, nb_tf, nb_ft, nb_tt, nb_ff]
      exact nx _ (by omega) (by omega) (sub_mk rfl (by simp [S, subL, pts_def, ints_def, I]) (by simp [S, subT]) rfl)
    have k0 : ((js.getD i (0, 0)).1 < 0) = False := eq_false g0
    have k0' : (0 ≤ (js.getD i (0, 0)).1) = True := eq_true (by omega)
    by_cases g1 : (ps.length : Int) ≤ (js.getD i (0, 0)).1
    · have k1 : ((ps.length : Int) ≤ (js.getD i (0, 0)).1) = True := eq_true g1
      have ho : owes ps i (js.getD i (0, 0)).1 = [] := by unfold owes standN; rw [if_neg (by omega)]
      rw [ho, List.append_nil] at hd
      rw [← hd] at nx
      refine vc_soundN 1000 ?_
      simp only [S, pts_def, ints_def, f1, f2, f3, f4, f5, v1, z0, z1, y0, y1, Nat.add_zero, Int.toNat_natCast, Int.toNat_zero, Int.reduceLT, Int.reduceLE, t1, k0, k0', k1, ↓wPre, wPost, wFast, wCore, beq_self_eq_true, ite_true, ite_false, false_implies, true_implies, implies_true, eq_self, ne_eq, ↓reduceIte, reduceIte, Nat.reducePow, Nat.reduceLT, Nat.reduceLeDiff, Nat.reduceEqDiff, Nat.reduceAdd, Nat.reduceMul, Nat.reduceSub, Nat.reduceBEq, Nat.reduceDiv, Nat.reduceMod, reduceCtorEq, sl1, wFacts, zA, qA, qC, vA, vC, pts_def, bools_def, wSeq, nb_tf, nb_ft, nb_tt, nb_ff]
      exact nx _ (by omega) (by omega) (sub_mk rfl (by simp [S, subL, pts_def, ints_def, I]) (by simp [S, subT]) rfl)
    have k1 : ((ps.length : Int) ≤ (js.getD i (0, 0)).1) = False := eq_false g1
    have k1' : ((js.getD i (0, 0)).1 < ps.length) = True := eq_true (by omega)
    have k1'' : (((js.getD i (0, 0)).1).toNat < ps.length) = True := eq_true (by omega)
    by_cases g2 : 0 ≤ ps.getD ((js.getD i (0, 0)).1).toNat 0
    rotate_left
    · have k2 : (0 ≤ ps.getD ((js.getD i (0, 0)).1).toNat 0) = False := eq_false g2
      have ho : owes ps i (js.getD i (0, 0)).1 = [] := by unfold owes standN; rw [if_neg fun h => g2 h.2.2]
      rw [ho, List.append_nil] at hd
      rw [← hd] at nx
      refine vc_soundN 1000 ?_
      simp only [S, pts_def, ints_def, f1, f2, f3, f4, f5, v1, z0, z1, y0, y1, Nat.add_zero, Int.toNat_natCast, Int.toNat_zero, Int.reduceLT, Int.reduceLE, t1, k0, k0', k1, k1', k1'', k2, ↓wPre, wPost, wFast, wCore, beq_self_eq_true, ite_true, ite_false, false_implies, true_implies, implies_true, eq_self, ne_eq, ↓reduceIte, reduceIte, Nat.reducePow, Nat.reduceLT, Nat.reduceLeDiff, Nat.reduceEqDiff, Nat.reduceAdd, Nat.reduceMul, Nat.reduceSub, Nat.reduceBEq, Nat.reduceDiv, Nat.reduceMod, reduceCtorEq, sl1, wFacts, zA, qA, qC, vA, vC, pts_def, bools_def, wSeq, nb_tf, nb_ft, nb_tt, nb_ff]
      exact nx _ (by omega) (by omega) (sub_mk rfl (by simp [S, subL, pts_def, ints_def, I]) (by simp [S, subT]) rfl)
    have k2 : (0 ≤ ps.getD ((js.getD i (0, 0)).1).toNat 0) = True := eq_true g2
    have ho : owes ps i (js.getD i (0, 0)).1 = [((i : Int), (js.getD i (0, 0)).1, ps.getD ((js.getD i (0, 0)).1).toNat 0)] := by unfold owes standN; rw [if_pos ⟨by omega, by omega, g2⟩]
    rw [ho] at hd
    have hap := appFs_one dC 3 (0, 0, 0) D ((i : Int), (js.getD i (0, 0)).1, ps.getD ((js.getD i (0, 0)).1).toNat 0) (by omega)
    have hl1 : D1.length = D.length + 1 := by rw [← hd, List.length_append]; rfl
    rw [hd] at hap
    refine vc_soundN 1000 ?_
    simp only [S, pts_def, ints_def, f1, f2, f3, f4, f5, v1, z0, z1, y0, y1, Nat.add_zero, Int.toNat_natCast, Int.toNat_zero, Int.reduceLT, Int.reduceLE, t1, k0, k0', k1, k1', k1'', k2, ↓wPre, wPost, wFast, wCore, beq_self_eq_true, ite_true, ite_false, false_implies, true_implies, implies_true, eq_self, ne_eq, ↓reduceIte, reduceIte, Nat.reducePow, Nat.reduceLT, Nat.reduceLeDiff, Nat.reduceEqDiff, Nat.reduceAdd, Nat.reduceMul, Nat.reduceSub, Nat.reduceBEq, Nat.reduceDiv, Nat.reduceMod, reduceCtorEq, sl1, wFacts, zA, qA, qC, vA, vC, pts_def, bools_def, wSeq, nb_tf, nb_ft, nb_tt, nb_ff]
    exact ⟨⟨fun j hj => dC_one ((i : Int), (js.getD i (0, 0)).1, ps.getD ((js.getD i (0, 0)).1).toNat 0) j hj, by omega, by omega⟩, nx _ (by omega) (by omega) (sub_mk rfl (by simp [S, subL, pts_def, ints_def, I, hl1]) (by simp [S, subT]) (by show _ = [AO.row D1.length (D1.length * 3) (slFs dC 3 (0, 0, 0) D1)]; rw [hl1, ← hap]; rfl))⟩
  · have nx : ∀ s', 2 ≤ 2 → 2 - 2 < 2 - 1 → Sub 0 s' (S i (debtsN js ps (i + 1)) (I 2)) → Run _ _ s' := fun s' h1 h2 h3 => nextm 2 s' h1 h2 h3
    show Run _ _ (S i (debtsN js ps i ++ owes ps i (js.getD i (0, 0)).1) (I 1))
    have w : ∀ D, D = debtsN js ps i ++ owes ps i (js.getD i (0, 0)).1 → D.length < 1000000 := fun D h => by rw [h]; rw [List.length_append]; omega
    have hn := w _ rfl
    obtain ⟨D, eD⟩ : ∃ D, D = debtsN js ps i ++ owes ps i (js.getD i (0, 0)).1 := ⟨_, rfl⟩
    obtain ⟨D1, eD1⟩ : ∃ D1, D1 = debtsN js ps (i + 1) := ⟨_, rfl⟩
    have hd : D ++ owes ps i (js.getD i (0, 0)).2 = D1 := by rw [eD, eD1]; exact hD2
    rw [← eD1] at nx
    rw [← eD] at hn ⊢
    by_cases g0 : (js.getD i (0, 0)).2 < 0
    · have k0 : ((js.getD i (0, 0)).2 < 0) = True := eq_true g0
      have ho : owes ps i (js.getD i (0, 0)).2 = [] := by unfold owes standN; rw [if_neg (by omega)]
      rw [ho, List.append_nil] at hd
      rw [← hd] at nx
      refine vc_soundN 1000 ?_
      simp only [S, pts_def, ints_def, f1, f2, f3, f4, f5, v1, z0, z1, y0, y1, Nat.add_zero, Int.toNat_natCast, Int.toNat_zero, Int.reduceLT, Int.reduceLE, t1, k0, ↓wPre, wPost, wFast, wCore, beq_self_eq_true, ite_true, ite_false, false_implies, true_implies, implies_true, eq_self, ne_eq, ↓reduceIte, reduceIte, Nat.reducePow, Nat.reduceLT, Nat.reduceLeDiff, Nat.reduceEqDiff, Nat.reduceAdd, Nat.reduceMul, Nat.reduceSub, Nat.reduceBEq, Nat.reduceDiv, Nat.reduceMod, reduceCtorEq, sl1, wFacts, zA, qA, qC, vA, vC, pts_def, bools_def, wSeq, nb_tf, nb_ft, nb_tt, nb_ff]
      exact nx _ (by omega) (by omega) (sub_mk rfl (by simp [S, subL, pts_def, ints_def, I]) (by simp [S, subT]) rfl)
    have k0 : ((js.getD i (0, 0)).2 < 0) = False := eq_false g0
    have k0' : (0 ≤ (js.getD i (0, 0)).2) = True := eq_true (by omega)
    by_cases g1 : (ps.length : Int) ≤ (js.getD i (0, 0)).2
    · have k1 : ((ps.length : Int) ≤ (js.getD i (0, 0)).2) = True := eq_true g1
      have ho : owes ps i (js.getD i (0, 0)).2 = [] := by unfold owes standN; rw [if_neg (by omega)]
      rw [ho, List.append_nil] at hd
      rw [← hd] at nx
      refine vc_soundN 1000 ?_
      simp only [S, pts_def, ints_def, f1, f2, f3, f4, f5, v1, z0, z1, y0, y1, Nat.add_zero, Int.toNat_natCast, Int.toNat_zero, Int.reduceLT, Int.reduceLE, t1, k0, k0', k1, ↓wPre, wPost, wFast, wCore, beq_self_eq_true, ite_true, ite_false, false_implies, true_implies, implies_true, eq_self, ne_eq, ↓reduceIte, reduceIte, Nat.reducePow, Nat.reduceLT, Nat.reduceLeDiff, Nat.reduceEqDiff, Nat.reduceAdd, Nat.reduceMul, Nat.reduceSub, Nat.reduceBEq, Nat.reduceDiv, Nat.reduceMod, reduceCtorEq, sl1, wFacts, zA, qA, qC, vA, vC, pts_def, bools_def, wSeq, nb_tf, nb_ft, nb_tt, nb_ff]
      exact nx _ (by omega) (by omega) (sub_mk rfl (by simp [S, subL, pts_def, ints_def, I]) (by simp [S, subT]) rfl)
    have k1 : ((ps.length : Int) ≤ (js.getD i (0, 0)).2) = False := eq_false g1
    have k1' : ((js.getD i (0, 0)).2 < ps.length) = True := eq_true (by omega)
    have k1'' : (((js.getD i (0, 0)).2).toNat < ps.length) = True := eq_true (by omega)
    by_cases g2 : 0 ≤ ps.getD ((js.getD i (0, 0)).2).toNat 0
    rotate_left
    · have k2 : (0 ≤ ps.getD ((js.getD i (0, 0)).2).toNat 0) = False := eq_false g2
      have ho : owes ps i (js.getD i (0, 0)).2 = [] := by unfold owes standN; rw [if_neg fun h => g2 h.2.2]
      rw [ho, List.append_nil] at hd
      rw [← hd] at nx
      refine vc_soundN 1000 ?_
      simp only [S, pts_def, ints_def, f1, f2, f3, f4, f5, v1, z0, z1, y0, y1, Nat.add_zero, Int.toNat_natCast, Int.toNat_zero, Int.reduceLT, Int.reduceLE, t1, k0, k0', k1, k1', k1'', k2, ↓wPre, wPost, wFast, wCore, beq_self_eq_true, ite_true, ite_false, false_implies, true_implies, implies_true, eq_self, ne_eq, ↓reduceIte, reduceIte, Nat.reducePow, Nat.reduceLT, Nat.reduceLeDiff, Nat.reduceEqDiff, Nat.reduceAdd, Nat.reduceMul, Nat.reduceSub, Nat.reduceBEq, Nat.reduceDiv, Nat.reduceMod, reduceCtorEq, sl1, wFacts, zA, qA, qC, vA, vC, pts_def, bools_def, wSeq, nb_tf, nb_ft, nb_tt, nb_ff]
      exact nx _ (by omega) (by omega) (sub_mk rfl (by simp [S, subL, pts_def, ints_def, I]) (by simp [S, subT]) rfl)
    have k2 : (0 ≤ ps.getD ((js.getD i (0, 0)).2).toNat 0) = True := eq_true g2
    have ho : owes ps i (js.getD i (0, 0)).2 = [((i : Int), (js.getD i (0, 0)).2, ps.getD ((js.getD i (0, 0)).2).toNat 0)] := by unfold owes standN; rw [if_pos ⟨by omega, by omega, g2⟩]
    rw [ho] at hd
    have hap := appFs_one dC 3 (0, 0, 0) D ((i : Int), (js.getD i (0, 0)).2, ps.getD ((js.getD i (0, 0)).2).toNat 0) (by omega)
    have hl1 : D1.length = D.length + 1 := by rw [← hd, List.length_append]; rfl
    rw [hd] at hap
    refine vc_soundN 1000 ?_
    simp only [S, pts_def, ints_def, f1, f2, f3, f4, f5, v1, z0, z1, y0, y1, Nat.add_zero, Int.toNat_natCast, Int.toNat_zero, Int.reduceLT, Int.reduceLE, t1, k0, k0', k1, k1', k1'', k2, ↓wPre, wPost, wFast, wCore, beq_self_eq_true, ite_true, ite_false, false_implies, true_implies, implies_true, eq_self, ne_eq, ↓reduceIte, reduceIte, Nat.reducePow, Nat.reduceLT, Nat.reduceLeDiff, Nat.reduceEqDiff, Nat.reduceAdd, Nat.reduceMul, Nat.reduceSub, Nat.reduceBEq, Nat.reduceDiv, Nat.reduceMod, reduceCtorEq, sl1, wFacts, zA, qA, qC, vA, vC, pts_def, bools_def, wSeq, nb_tf, nb_ft, nb_tt, nb_ff]
    exact ⟨⟨fun j hj => dC_one ((i : Int), (js.getD i (0, 0)).2, ps.getD ((js.getD i (0, 0)).2).toNat 0) j hj, by omega, by omega⟩, nx _ (by omega) (by omega) (sub_mk rfl (by simp [S, subL, pts_def, ints_def, I, hl1]) (by simp [S, subT]) (by show _ = [AO.row D1.length (D1.length * 3) (slFs dC 3 (0, 0, 0) D1)]; rw [hl1, ← hap]; rfl))⟩
end
end Go.Ab.N

namespace Go.Ab.N
open Go Go.RowKit Go.Proofs
noncomputable section
set_option maxRecDepth 10000
set_option maxHeartbeats 4000000
set_option linter.unusedSimpArgs false
set_option linter.unusedVariables false
open Classical

/-! ### The section's examples -/
theorem zeroQ_of : zeroQ = RQ.of 0 := by
  unfold zeroQ RQ.of Ab.N.qd
  simp [digs_zero]
def rHalf : Rat := Rat.divInt 1 2
def rOne : Rat := Rat.divInt 1 1
def rTwo : Rat := Rat.divInt 2 1
def tri : PV := ⟨0, 0, [(0, 0), (2, 0), (0, 2)], [false, false, false], [0, 0, 0], RQ.of rHalf, RQ.of rOne, RQ.of rTwo, RQ.of rOne, RQ.of 0⟩
theorem retCellS {P : Program} {fn : Func} {str hcs : List Nat} {r : AV} {s : AS} {t u id ver n : Nat} {L : List AV} (hr : fn.results = #[.cell t u]) (hk : ldk P u = some (some n)) (hs : s.get t = .ref id ver 0)
    (ho : s.h[id]? = some (.row ver n (ofL L))) (hn : L.length = n) (h : Sees s.h (.agg L) r) : RetOk (envP P fn str hcs r) s :=
  ⟨.agg L, by
    have := resAt_ref hk hs ho hn
    simp [resV, envP_P, envP_fn, hr, resList, packR, this], h⟩
theorem triangle_fn : Fn Try.prog 10 [] (pvA tri) := by
  have c1 := of04_fn 1 1 ⟨by omega, by omega⟩ ⟨by omega, by omega⟩
  have c2 := of04_fn 1 2 ⟨by omega, by omega⟩ ⟨by omega, by omega⟩
  have c3 := of04_fn 2 1 ⟨by omega, by omega⟩ ⟨by omega, by omega⟩
  refine Fn.intro (fn := Try.f10) Try.call10 Try.func10 rfl mixed 2 [] [2, 30000001] [] (by kernel_rfl) (Nat.le_of_ble_eq_true rfl) (by simp) (vc_soundN 1000 ?_)
  simp only [AS.start, ↓wPre, wPost, wFast, wCore, beq_self_eq_true, ite_true, ite_false, false_implies, true_implies, implies_true, eq_self, ne_eq, ↓reduceIte, reduceIte, Nat.reducePow, Nat.reduceLT, Nat.reduceLeDiff, Nat.reduceEqDiff, Nat.reduceAdd, Nat.reduceMul, Nat.reduceSub, Nat.reduceBEq, Nat.reduceDiv, Nat.reduceMod, reduceCtorEq, sl1, wFacts, zA, qA, qC, vA, vC, pts_def, bools_def, wSeq, nb_tf, nb_ft, nb_tt, nb_ff]
  refine call_fn c1 rfl ?_
  simp only [↓wPre, wPost, wFast, wCore, beq_self_eq_true, ite_true, ite_false, false_implies, true_implies, implies_true, eq_self, ne_eq, ↓reduceIte, reduceIte, Nat.reducePow, Nat.reduceLT, Nat.reduceLeDiff, Nat.reduceEqDiff, Nat.reduceAdd, Nat.reduceMul, Nat.reduceSub, Nat.reduceBEq, Nat.reduceDiv, Nat.reduceMod, reduceCtorEq, sl1, wFacts, zA, qA, qC, vA, vC, pts_def, bools_def, wSeq, nb_tf, nb_ft, nb_tt, nb_ff]
  refine ⟨⟨by omega, by omega, by omega⟩, ⟨by omega, by omega, by omega⟩, ?_⟩
  refine call_fn c2 rfl ?_
  simp only [↓wPre, wPost, wFast, wCore, beq_self_eq_true, ite_true, ite_false, false_implies, true_implies, implies_true, eq_self, ne_eq, ↓reduceIte, reduceIte, Nat.reducePow, Nat.reduceLT, Nat.reduceLeDiff, Nat.reduceEqDiff, Nat.reduceAdd, Nat.reduceMul, Nat.reduceSub, Nat.reduceBEq, Nat.reduceDiv, Nat.reduceMod, reduceCtorEq, sl1, wFacts, zA, qA, qC, vA, vC, pts_def, bools_def, wSeq, nb_tf, nb_ft, nb_tt, nb_ff]
  refine call_fn c3 rfl ?_
  simp only [↓wPre, wPost, wFast, wCore, beq_self_eq_true, ite_true, ite_false, false_implies, true_implies, implies_true, eq_self, ne_eq, ↓reduceIte, reduceIte, Nat.reducePow, Nat.reduceLT, Nat.reduceLeDiff, Nat.reduceEqDiff, Nat.reduceAdd, Nat.reduceMul, Nat.reduceSub, Nat.reduceBEq, Nat.reduceDiv, Nat.reduceMod, reduceCtorEq, sl1, wFacts, zA, qA, qC, vA, vC, pts_def, bools_def, wSeq, nb_tf, nb_ft, nb_tt, nb_ff]
  have h1 : ∀ H, Sees H (.sl 3 6 (ofL [I 0, I 0, I 2, I 0, I 0, I 2]) false) (pts tri.rim) := fun H => sees_of_weak (settled_pts _) (weak_slW rfl (Nat.le_refl _) fun j hj => by
    match j, hj with
    | 0, _ => exact Weak.rfl' _
    | 1, _ => exact Weak.rfl' _
    | 2, _ => exact Weak.rfl' _
    | 3, _ => exact Weak.rfl' _
    | 4, _ => exact Weak.rfl' _
    | 5, _ => exact Weak.rfl' _
    | j + 6, h => exact absurd h (by show ¬ j + 6 < 3 * 2; omega))
  have h2 : ∀ (H : List AO), H[2]? = some (.row 0 3 fun _ => .bool false) → Sees H (.osl 2 0 1 0 3) (bools tri.worn) := fun H ho => by
    refine sees_osl (M := 3) (.inl ho) (by omega) (by omega) fun j hj => ?_
    match j, hj with
    | 0, _ => exact (settled_bool _).sees _
    | 1, _ => exact (settled_bool _).sees _
    | 2, _ => exact (settled_bool _).sees _
    | j + 3, h => omega
  have h3 : ∀ (H : List AO), H[3]? = some (.row 0 3 fun _ => .int .i64 0) → Sees H (.osl 3 0 1 0 3) (ints tri.marks) := fun H ho => by
    refine sees_osl (M := 3) (.inl ho) (by omega) (by omega) fun j hj => ?_
    match j, hj with
    | 0, _ => exact (settled_I _).sees _
    | 1, _ => exact (settled_I _).sees _
    | 2, _ => exact (settled_I _).sees _
    | j + 3, h => omega
  have h4 : ∀ (H : List AO) (f : Nat → AV) (t : Bool), Sees H (.sl 0 0 f t) (ints (RQ.of 0).pd) := fun H f t => by
    have e : (RQ.of 0).pd = [] := by rw [← zeroQ_of]; rfl
    rw [e]; exact sees_of_weak (settled_ints _) (weak_emp _ _)
  have h5 : ∀ (H : List AO) (f : Nat → AV) (t : Bool), Sees H (.sl 0 0 f t) (ints (RQ.of 0).qd) := fun H f t => by
    have e : (RQ.of 0).qd = [] := by rw [← zeroQ_of]; rfl
    rw [e]; exact sees_of_weak (settled_ints _) (weak_emp _ _)
  have h6 : ∀ (H : List AO), Sees H (.bool false) (.bool (RQ.of 0).pn) := fun H => by
    have e : (RQ.of 0).pn = false := by rw [← zeroQ_of]; rfl
    rw [e]; exact (settled_bool _).sees _
  refine retCellS rfl ldk46 rfl rfl rfl ?_
  exact sees_agg ⟨(settled_I _).sees _, (settled_I _).sees _, h1 _, h2 _ rfl, h3 _ rfl, (settled_bool _).sees _, (settled_ints _).sees _, (settled_bool _).sees _, (settled_ints _).sees _, (settled_bool _).sees _, (settled_ints _).sees _, (settled_bool _).sees _, (settled_ints _).sees _, (settled_bool _).sees _, (settled_ints _).sees _, (settled_bool _).sees _, (settled_ints _).sees _, (settled_bool _).sees _, (settled_ints _).sees _, (settled_bool _).sees _, (settled_ints _).sees _, h6 _, h4 _ _ _, (settled_bool _).sees _, h5 _ _ _, trivial⟩
end
end Go.Ab.N

namespace Go.Ab.N
open Go Go.RowKit Go.Proofs
noncomputable section
set_option maxRecDepth 10000
set_option maxHeartbeats 4000000
set_option linter.unusedSimpArgs false
set_option linter.unusedVariables false
open Classical

/-! ### The examples hold -/
theorem qb_div (p q : Int) (hp : in64 p) (hq : in64 q) : qb (Rat.divInt p q) ≤ 3 := qb_divInt _ _ _ (by omega) (bl_i64 hp) (bl_i64 hq)
theorem sz_div (p q : Int) (hp : in64 p) (hq : in64 q) : (RQ.of (Rat.divInt p q)).sz ≤ 3 := Nat.le_trans (RQ.of_sz _) (qb_div p q hp hq)
theorem tri_small : tri.small := by
  have h1 := sz_div 1 2 ⟨by omega, by omega⟩ ⟨by omega, by omega⟩
  have h2 := sz_div 1 1 ⟨by omega, by omega⟩ ⟨by omega, by omega⟩
  have h3 := sz_div 2 1 ⟨by omega, by omega⟩ ⟨by omega, by omega⟩
  have h4 : (RQ.of 0).sz ≤ 0 := by rw [← zeroQ_of]; exact Nat.le_refl _
  exact ⟨by show 3 < _; omega, by show 3 < _; omega, by show 3 < _; omega, by show (RQ.of (Rat.divInt 1 2)).sz ≤ _; omega, by show (RQ.of (Rat.divInt 1 1)).sz ≤ _; omega, by show (RQ.of (Rat.divInt 2 1)).sz ≤ _; omega, by show (RQ.of (Rat.divInt 1 1)).sz ≤ _; omega, by show (RQ.of 0).sz ≤ _; omega⟩
def cst : PV := castC tri 7 1 (rHalf + Rat.divInt 1 4)
theorem tri_poly : polyOk (rimV tri.rim) := by
  refine ⟨⟨by decide, by decide⟩, fun i hi => ?_, by decide +kernel⟩
  have hi' : i < 3 := hi
  have h : ∀ i, i < 3 → ¬ badSide (rimV tri.rim) i := by
    intro i hi
    match i, hi with
    | 0, _ => unfold badSide; decide +kernel
    | 1, _ => unfold badSide; decide +kernel
    | 2, _ => unfold badSide; decide +kernel
    | i + 3, h => omega
  refine ⟨h i hi', fun k h1 h2 hb => ?_⟩
  have h2' : k < 3 := h2
  obtain rfl : i = 0 := by omega
  obtain rfl : k = 2 := by omega
  exact hb.1 (by decide)
theorem tri_range (id home : Int) (t : Rat) (h1 : wb id 0 999 = true) (h2 : wb home 0 4 = true) : rangeOk (castC tri id home t) := by
  refine ⟨fun i hi => ?_, fun i hi => ?_, h1, h2⟩
  · match i, hi with
    | 0, _ => show ptOk (0, 0) = true; decide
    | 1, _ => show ptOk (2, 0) = true; decide
    | 2, _ => show ptOk (0, 2) = true; decide
    | i + 3, h => exact absurd h (by show ¬ i + 3 < 3; omega)
  · match i, hi with
    | 0, _ => show markOk 0 = true; decide
    | 1, _ => show markOk 0 = true; decide
    | 2, _ => show markOk 0 = true; decide
    | i + 3, h => exact absurd h (by show ¬ i + 3 < 3; omega)
theorem cast1 : castOf tri 7 1 rHalf (RQ.of (Rat.divInt 1 4)) = (cst, 0) := by
  have hex : ∃ q : Rat, RQ.of (Rat.divInt 1 4) = RQ.of q ∧ 0 ≤ q := ⟨_, rfl, by decide +kernel⟩
  unfold castOf
  rw [dif_pos hex]
  have : hex.choose = Rat.divInt 1 4 := (RQ.of_inj hex.choose_spec.1).symm
  rw [this]
  have he : pieceErr (castC tri 7 1 (rHalf + Rat.divInt 1 4)) = 0 := by
    unfold pieceErr
    rw [if_pos (tri_range _ _ _ (by decide) (by decide)), if_pos]
    refine ⟨⟨by decide, by decide, by decide⟩, ⟨_, _, _, _, _, ⟨rfl, rfl, rfl, rfl, rfl⟩, ⟨by decide +kernel, by decide +kernel, by decide +kernel, by decide +kernel⟩, ⟨by decide +kernel, by decide +kernel, by decide +kernel⟩, by decide +kernel⟩, tri_poly⟩
  simp only [he, if_true]
  rfl
theorem cast2 : castOf tri 7 1 rHalf (RQ.of (Rat.divInt 15 4)) = (zeroP, 1) := by
  have hex : ∃ q : Rat, RQ.of (Rat.divInt 15 4) = RQ.of q ∧ 0 ≤ q := ⟨_, rfl, by decide +kernel⟩
  unfold castOf
  rw [dif_pos hex]
  have : hex.choose = Rat.divInt 15 4 := (RQ.of_inj hex.choose_spec.1).symm
  rw [this]
  have he : pieceErr (castC tri 7 1 (rHalf + Rat.divInt 15 4)) = 1 := by
    unfold pieceErr
    rw [if_pos (tri_range _ _ _ (by decide) (by decide)), if_neg]
    rintro ⟨_, ⟨t, l, h, s, r, ⟨e1, _⟩, ⟨_, ht, _⟩, _⟩, _⟩
    have := RQ.of_inj e1
    rw [← this] at ht
    revert ht
    decide +kernel
  simp only [he]
  rfl
theorem cast3 : castOf tri 7 1 rHalf (RQ.of (Rat.divInt (-1) 4)) = (zeroP, 1) := by
  unfold castOf
  rw [dif_neg]
  rintro ⟨q, e, h⟩
  rw [← RQ.of_inj e] at h
  revert h
  decide +kernel
def exJ : List (Int × Int) := [(0, 1), (2, 1), (2, 3)]
def exP : List Int := [-1, -1, 0, 1]
def exD : List (Int × Int × Int) := [(1, 2, 0), (2, 2, 0), (2, 3, 1)]
theorem ex_debts : debtsN exJ exP 3 = exD := by
  decide +kernel
theorem cst_small : cst.small := by
  have h := tri_small
  have h1 := RQ.of_sz (rHalf + Rat.divInt 1 4)
  have h2 := qb_add rHalf (Rat.divInt 1 4)
  have h3 := qb_div 1 2 ⟨by omega, by omega⟩ ⟨by omega, by omega⟩
  have h4 := qb_div 1 4 ⟨by omega, by omega⟩ ⟨by omega, by omega⟩
  have h5 : rHalf = Rat.divInt 1 2 := rfl
  rw [h5] at h1 h2
  exact ⟨h.rim, h.worn, h.marks, by show (RQ.of (rHalf + Rat.divInt 1 4)).sz ≤ _; rw [h5]; omega, h.light, h.heavy, h.strength, h.rough⟩
theorem lives_fn : Fn Try.prog 8 [] (.bool true) := by
  have hq : qb rHalf ≤ 3 := qb_div 1 2 ⟨by omega, by omega⟩ ⟨by omega, by omega⟩
  have o1 := of04_fn 1 4 ⟨by omega, by omega⟩ ⟨by omega, by omega⟩
  have o2 := of04_fn 15 4 ⟨by omega, by omega⟩ ⟨by omega, by omega⟩
  have o3 := of04_fn (-1) 4 ⟨by omega, by omega⟩ ⟨by omega, by omega⟩
  have o4 := of04_fn 3 4 ⟨by omega, by omega⟩ ⟨by omega, by omega⟩
  have z1 := sz_div 1 4 ⟨by omega, by omega⟩ ⟨by omega, by omega⟩
  have z2 := sz_div 15 4 ⟨by omega, by omega⟩ ⟨by omega, by omega⟩
  have z3 := sz_div (-1) 4 ⟨by omega, by omega⟩ ⟨by omega, by omega⟩
  have k1 := castof_fn tri tri_small 7 1 (RQ.of (Rat.divInt 1 4)) (by omega) (a := rHalf) rfl (by omega)
  have k2 := castof_fn tri tri_small 7 1 (RQ.of (Rat.divInt 15 4)) (by omega) (a := rHalf) rfl (by omega)
  have k3 := castof_fn tri tri_small 7 1 (RQ.of (Rat.divInt (-1) 4)) (by omega) (a := rHalf) rfl (by omega)
  rw [cast1] at k1
  rw [cast2] at k2
  rw [cast3] at k3
  have ct := triangle_fn
  refine Fn.intro (fn := Try.f8) Try.call8 Try.func8 rfl mixed 10 [] [2, 3, 4, 30000001, 40000001, 50000001] [] (by kernel_rfl) (Nat.le_of_ble_eq_true rfl) (by simp) (vc_soundN 1000 ?_)
  simp only [AS.start, ↓wPre, wPost, wFast, wCore, beq_self_eq_true, ite_true, ite_false, false_implies, true_implies, implies_true, eq_self, ne_eq, ↓reduceIte, reduceIte, Nat.reducePow, Nat.reduceLT, Nat.reduceLeDiff, Nat.reduceEqDiff, Nat.reduceAdd, Nat.reduceMul, Nat.reduceSub, Nat.reduceBEq, Nat.reduceDiv, Nat.reduceMod, reduceCtorEq, sl1, wFacts, zA, qA, qC, vA, vC, pts_def, bools_def, wSeq, nb_tf, nb_ft, nb_tt, nb_ff]
  refine call_fn ct rfl ?_
  simp only [pvA, pvC, ↓wPre, wPost, wFast, wCore, beq_self_eq_true, ite_true, ite_false, false_implies, true_implies, implies_true, eq_self, ne_eq, ↓reduceIte, reduceIte, Nat.reducePow, Nat.reduceLT, Nat.reduceLeDiff, Nat.reduceEqDiff, Nat.reduceAdd, Nat.reduceMul, Nat.reduceSub, Nat.reduceBEq, Nat.reduceDiv, Nat.reduceMod, reduceCtorEq, sl1, wFacts, zA, qA, qC, vA, vC, pts_def, bools_def, wSeq, nb_tf, nb_ft, nb_tt, nb_ff]
  refine call_fn o1 rfl ?_
  simp only [pvA, pvC, ↓wPre, wPost, wFast, wCore, beq_self_eq_true, ite_true, ite_false, false_implies, true_implies, implies_true, eq_self, ne_eq, ↓reduceIte, reduceIte, Nat.reducePow, Nat.reduceLT, Nat.reduceLeDiff, Nat.reduceEqDiff, Nat.reduceAdd, Nat.reduceMul, Nat.reduceSub, Nat.reduceBEq, Nat.reduceDiv, Nat.reduceMod, reduceCtorEq, sl1, wFacts, zA, qA, qC, vA, vC, pts_def, bools_def, wSeq, nb_tf, nb_ft, nb_tt, nb_ff]
  refine call_fn k1 rfl ?_
  simp only [pvA, pvC, ↓wPre, wPost, wFast, wCore, beq_self_eq_true, ite_true, ite_false, false_implies, true_implies, implies_true, eq_self, ne_eq, ↓reduceIte, reduceIte, Nat.reducePow, Nat.reduceLT, Nat.reduceLeDiff, Nat.reduceEqDiff, Nat.reduceAdd, Nat.reduceMul, Nat.reduceSub, Nat.reduceBEq, Nat.reduceDiv, Nat.reduceMod, reduceCtorEq, sl1, wFacts, zA, qA, qC, vA, vC, pts_def, bools_def, wSeq, nb_tf, nb_ft, nb_tt, nb_ff]
  refine call_fn o2 rfl ?_
  simp only [pvA, pvC, ↓wPre, wPost, wFast, wCore, beq_self_eq_true, ite_true, ite_false, false_implies, true_implies, implies_true, eq_self, ne_eq, ↓reduceIte, reduceIte, Nat.reducePow, Nat.reduceLT, Nat.reduceLeDiff, Nat.reduceEqDiff, Nat.reduceAdd, Nat.reduceMul, Nat.reduceSub, Nat.reduceBEq, Nat.reduceDiv, Nat.reduceMod, reduceCtorEq, sl1, wFacts, zA, qA, qC, vA, vC, pts_def, bools_def, wSeq, nb_tf, nb_ft, nb_tt, nb_ff]
  refine call_fn k2 rfl ?_
  simp only [pvA, pvC, ↓wPre, wPost, wFast, wCore, beq_self_eq_true, ite_true, ite_false, false_implies, true_implies, implies_true, eq_self, ne_eq, ↓reduceIte, reduceIte, Nat.reducePow, Nat.reduceLT, Nat.reduceLeDiff, Nat.reduceEqDiff, Nat.reduceAdd, Nat.reduceMul, Nat.reduceSub, Nat.reduceBEq, Nat.reduceDiv, Nat.reduceMod, reduceCtorEq, sl1, wFacts, zA, qA, qC, vA, vC, pts_def, bools_def, wSeq, nb_tf, nb_ft, nb_tt, nb_ff]
  refine call_fn o3 rfl ?_
  simp only [pvA, pvC, ↓wPre, wPost, wFast, wCore, beq_self_eq_true, ite_true, ite_false, false_implies, true_implies, implies_true, eq_self, ne_eq, ↓reduceIte, reduceIte, Nat.reducePow, Nat.reduceLT, Nat.reduceLeDiff, Nat.reduceEqDiff, Nat.reduceAdd, Nat.reduceMul, Nat.reduceSub, Nat.reduceBEq, Nat.reduceDiv, Nat.reduceMod, reduceCtorEq, sl1, wFacts, zA, qA, qC, vA, vC, pts_def, bools_def, wSeq, nb_tf, nb_ft, nb_tt, nb_ff]
  refine call_fn k3 rfl ?_
  simp only [pvA, pvC, ↓wPre, wPost, wFast, wCore, beq_self_eq_true, ite_true, ite_false, false_implies, true_implies, implies_true, eq_self, ne_eq, ↓reduceIte, reduceIte, Nat.reducePow, Nat.reduceLT, Nat.reduceLeDiff, Nat.reduceEqDiff, Nat.reduceAdd, Nat.reduceMul, Nat.reduceSub, Nat.reduceBEq, Nat.reduceDiv, Nat.reduceMod, reduceCtorEq, sl1, wFacts, zA, qA, qC, vA, vC, pts_def, bools_def, wSeq, nb_tf, nb_ft, nb_tt, nb_ff]
  have kd : Fn Try.prog 4 [pts exJ, ints exP] (debts exD) := by
    have := debts_fn exJ exP (by decide) (by decide)
    rwa [show exJ.length = 3 from rfl, ex_debts] at this
  have wj1 : Weak (.sl 3 6 (ofL [I 0, I 1, I 2, I 1, I 2, I 3]) true) (pts exJ) := weak_slW rfl (Nat.le_refl _) fun j hj => by
    match j, hj with
    | 0, _ => exact Weak.rfl' _
    | 1, _ => exact Weak.rfl' _
    | 2, _ => exact Weak.rfl' _
    | 3, _ => exact Weak.rfl' _
    | 4, _ => exact Weak.rfl' _
    | 5, _ => exact Weak.rfl' _
    | j + 6, h => exact absurd h (by show ¬ j + 6 < 3 * 2; omega)
  have wp1 : Weak (.sl 4 4 (ofL [I (-1), I (-1), I 0, I 1]) true) (ints exP) := weak_slW rfl (Nat.le_refl _) fun j hj => by
    match j, hj with
    | 0, _ => exact Weak.rfl' _
    | 1, _ => exact Weak.rfl' _
    | 2, _ => exact Weak.rfl' _
    | 3, _ => exact Weak.rfl' _
    | j + 4, h => exact absurd h (by show ¬ j + 4 < 4; omega)
  have wd1 : Weak (.sl 3 9 (ofL [I 1, I 2, I 0, I 2, I 2, I 0, I 2, I 3, I 1]) true) (debts exD) := weak_slW rfl (Nat.le_refl _) fun j hj => by
    match j, hj with
    | 0, _ => exact Weak.rfl' _
    | 1, _ => exact Weak.rfl' _
    | 2, _ => exact Weak.rfl' _
    | 3, _ => exact Weak.rfl' _
    | 4, _ => exact Weak.rfl' _
    | 5, _ => exact Weak.rfl' _
    | 6, _ => exact Weak.rfl' _
    | 7, _ => exact Weak.rfl' _
    | 8, _ => exact Weak.rfl' _
    | j + 9, h => exact absurd h (by show ¬ j + 9 < 3 * 3; omega)
  refine call_weak kd ⟨wj1, wp1, trivial⟩ ?_
  have i1 : (cst.id = 7) = True := eq_true rfl
  have i2 : (cst.home = 1) = True := eq_true rfl
  simp only [pvA, pvC, i1, i2, Int.reduceEq, ↓wPre, wPost, wFast, wCore, beq_self_eq_true, ite_true, ite_false, false_implies, true_implies, implies_true, eq_self, ne_eq, ↓reduceIte, reduceIte, Nat.reducePow, Nat.reduceLT, Nat.reduceLeDiff, Nat.reduceEqDiff, Nat.reduceAdd, Nat.reduceMul, Nat.reduceSub, Nat.reduceBEq, Nat.reduceDiv, Nat.reduceMod, reduceCtorEq, sl1, wFacts, zA, qA, qC, vA, vC, pts_def, bools_def, wSeq, nb_tf, nb_ft, nb_tt, nb_ff]
  refine call_fn o4 rfl ?_
  simp only [pvA, pvC, i1, i2, Int.reduceEq, ↓wPre, wPost, wFast, wCore, beq_self_eq_true, ite_true, ite_false, false_implies, true_implies, implies_true, eq_self, ne_eq, ↓reduceIte, reduceIte, Nat.reducePow, Nat.reduceLT, Nat.reduceLeDiff, Nat.reduceEqDiff, Nat.reduceAdd, Nat.reduceMul, Nat.reduceSub, Nat.reduceBEq, Nat.reduceDiv, Nat.reduceMod, reduceCtorEq, sl1, wFacts, zA, qA, qC, vA, vC, pts_def, bools_def, wSeq, nb_tf, nb_ft, nb_tt, nb_ff]
  have et : cst.tol = RQ.of (Rat.divInt 3 4) := by
    show RQ.of (rHalf + Rat.divInt 1 4) = _
    rw [show rHalf + Rat.divInt 1 4 = Rat.divInt 3 4 by decide +kernel]
  have z4 := sz_div 3 4 ⟨by omega, by omega⟩ ⟨by omega, by omega⟩
  have ks := same04_fn cst.tol (RQ.of (Rat.divInt 3 4)) (by rw [et]; omega) (by omega)
  rw [decide_eq_true et] at ks
  refine call_fn ks rfl ?_
  simp only [pvA, pvC, i1, i2, Int.reduceEq, ↓wPre, wPost, wFast, wCore, beq_self_eq_true, ite_true, ite_false, false_implies, true_implies, implies_true, eq_self, ne_eq, ↓reduceIte, reduceIte, Nat.reducePow, Nat.reduceLT, Nat.reduceLeDiff, Nat.reduceEqDiff, Nat.reduceAdd, Nat.reduceMul, Nat.reduceSub, Nat.reduceBEq, Nat.reduceDiv, Nat.reduceMod, reduceCtorEq, sl1, wFacts, zA, qA, qC, vA, vC, pts_def, bools_def, wSeq, nb_tf, nb_ft, nb_tt, nb_ff]
  refine call_fn (plain_fn exD (by decide)) rfl ?_
  simp only [pvA, pvC, i1, i2, Int.reduceEq, ↓wPre, wPost, wFast, wCore, beq_self_eq_true, ite_true, ite_false, false_implies, true_implies, implies_true, eq_self, ne_eq, ↓reduceIte, reduceIte, Nat.reducePow, Nat.reduceLT, Nat.reduceLeDiff, Nat.reduceEqDiff, Nat.reduceAdd, Nat.reduceMul, Nat.reduceSub, Nat.reduceBEq, Nat.reduceDiv, Nat.reduceMod, reduceCtorEq, sl1, wFacts, zA, qA, qC, vA, vC, pts_def, bools_def, wSeq, nb_tf, nb_ft, nb_tt, nb_ff]
  have kk := same_fn36 exD exD (by decide) (by decide)
  rw [decide_eq_true rfl] at kk
  refine call_weak kk ⟨Weak.rfl' _, wd1, trivial⟩ ?_
  simp only [pvA, pvC, i1, i2, Int.reduceEq, ↓wPre, wPost, wFast, wCore, beq_self_eq_true, ite_true, ite_false, false_implies, true_implies, implies_true, eq_self, ne_eq, ↓reduceIte, reduceIte, Nat.reducePow, Nat.reduceLT, Nat.reduceLeDiff, Nat.reduceEqDiff, Nat.reduceAdd, Nat.reduceMul, Nat.reduceSub, Nat.reduceBEq, Nat.reduceDiv, Nat.reduceMod, reduceCtorEq, sl1, wFacts, zA, qA, qC, vA, vC, pts_def, bools_def, wSeq, nb_tf, nb_ft, nb_tt, nb_ff]
  have is1 := is_fn tri cst tri_small cst_small (a := rHalf) (b := rHalf + Rat.divInt 1 4) rfl rfl
  rw [decide_eq_true ⟨rfl, by decide +kernel⟩] at is1
  have is2 := is_fn cst tri cst_small tri_small (a := rHalf + Rat.divInt 1 4) (b := rHalf) rfl rfl
  rw [decide_eq_false (fun h => by have := h.2; revert this; decide +kernel)] at is2
  have is3 := is_fn tri tri tri_small tri_small (a := rHalf) (b := rHalf) rfl rfl
  rw [decide_eq_true ⟨rfl, Rat.le_refl⟩] at is3
  refine call_fn is1 rfl ?_
  simp only [pvA, pvC, ↓wPre, wPost, wFast, wCore, beq_self_eq_true, ite_true, ite_false, false_implies, true_implies, implies_true, eq_self, ne_eq, ↓reduceIte, reduceIte, Nat.reducePow, Nat.reduceLT, Nat.reduceLeDiff, Nat.reduceEqDiff, Nat.reduceAdd, Nat.reduceMul, Nat.reduceSub, Nat.reduceBEq, Nat.reduceDiv, Nat.reduceMod, reduceCtorEq, sl1, wFacts, zA, qA, qC, vA, vC, pts_def, bools_def, wSeq, nb_tf, nb_ft, nb_tt, nb_ff]
  refine call_fn is2 rfl ?_
  simp only [pvA, pvC, ↓wPre, wPost, wFast, wCore, beq_self_eq_true, ite_true, ite_false, false_implies, true_implies, implies_true, eq_self, ne_eq, ↓reduceIte, reduceIte, Nat.reducePow, Nat.reduceLT, Nat.reduceLeDiff, Nat.reduceEqDiff, Nat.reduceAdd, Nat.reduceMul, Nat.reduceSub, Nat.reduceBEq, Nat.reduceDiv, Nat.reduceMod, reduceCtorEq, sl1, wFacts, zA, qA, qC, vA, vC, pts_def, bools_def, wSeq, nb_tf, nb_ft, nb_tt, nb_ff]
  refine call_fn is3 rfl ?_
  simp only [↓wPre, wPost, wFast, wCore, beq_self_eq_true, ite_true, ite_false, false_implies, true_implies, implies_true, eq_self, ne_eq, ↓reduceIte, reduceIte, Nat.reducePow, Nat.reduceLT, Nat.reduceLeDiff, Nat.reduceEqDiff, Nat.reduceAdd, Nat.reduceMul, Nat.reduceSub, Nat.reduceBEq, Nat.reduceDiv, Nat.reduceMod, reduceCtorEq, sl1, wFacts, zA, qA, qC, vA, vC, pts_def, bools_def, wSeq, nb_tf, nb_ft, nb_tt, nb_ff]
  exact ret1E rfl rfl (settled_bool _) rfl
end
end Go.Ab.N

namespace Go.Ab.N
open Go Go.RowKit Go.Proofs
noncomputable section
set_option maxRecDepth 10000
set_option maxHeartbeats 4000000
set_option linter.unusedSimpArgs false
set_option linter.unusedVariables false
open Classical

/-! ### The law about debts -/
theorem debtsN_take (js : List (Int × Int)) (ps : List Int) (m : Nat) : ∀ n, n ≤ m → debtsN (js.take m) ps n = debtsN js ps n
  | 0, _ => rfl
  | n + 1, h => by
    simp only [debtsN]
    rw [debtsN_take js ps m n (by omega)]
    congr 2
    rw [List.getD_eq_getElem?_getD, List.getD_eq_getElem?_getD, List.getElem?_take, if_pos (by omega)]
theorem debtsN_pre (js : List (Int × Int)) (ps : List Int) (n : Nat) : ∀ d, ∃ r, debtsN js ps (n + d) = debtsN js ps n ++ r
  | 0 => ⟨[], by simp⟩
  | d + 1 => by
    obtain ⟨r, hr⟩ := debtsN_pre js ps n d
    exact ⟨r ++ owesP ps (n + d : Nat) (js.getD (n + d) (0, 0)), by rw [← Nat.add_assoc]; simp only [debtsN]; rw [hr, List.append_assoc]⟩
theorem slFs_take {α : Type} (e : α → List AV) (s : Nat) (d : α) (l : List α) (n j : Nat) (hs : 0 < s) (hj : j < n * s) : slFs e s d l j = slFs e s d (l.take n) j := by
  unfold slFs
  have : j / s < n := by rw [Nat.div_lt_iff_lt_mul hs]; exact hj
  have e1 : (l.take n).getD (j / s) d = l.getD (j / s) d := by
    rw [List.getD_eq_getElem?_getD, List.getD_eq_getElem?_getD, List.getElem?_take, if_pos this]
  rw [e1]
theorem weak_take {α : Type} (e : α → List AV) (s : Nat) (d : α) (l : List α) (n : Nat) (hs : 0 < s) (hn : n ≤ l.length) : Weak (.sl n (min (n * s) (l.length * s)) (fun j => slFs e s d l j) false) (sls e s d (l.take n)) := by
  have hl : (l.take n).length = n := by rw [List.length_take]; omega
  unfold sls
  have hm : min (n * s) (l.length * s) = n * s := Nat.min_eq_left (Nat.mul_le_mul_right s hn)
  rw [hm]
  refine weak_slW hl.symm (by rw [hl]; exact Nat.le_refl _) fun j hj => ?_
  rw [hl] at hj
  show Weak (slFs e s d l j) _
  rw [slFs_take e s d l n j hs hj]
  exact Weak.rfl' _
theorem law_fn (js : List (Int × Int)) (ps : List Int) (hj : js.length < 9223372036854775808) (hp : ps.length < 9223372036854775808) : Fn Try.prog 3 [pts js, ints ps] (.bool true) := by
  obtain ⟨J, hJ⟩ : ∃ J, J = js.take 40 := ⟨_, rfl⟩
  have hJl : J.length ≤ 40 := by rw [hJ, List.length_take]; omega
  refine Fn.intro (fn := Try.f3) Try.call3 Try.func3 rfl mixed 11 [] [] [] (by kernel_rfl) (Nat.le_of_ble_eq_true rfl) (by simp [settled_pts, settled_ints]) (vc_soundN 1000 ?_)
  have hJn : J.length = min 40 js.length := by rw [hJ, List.length_take]
  have fm : (if (40 : Int) < js.length then (40 : Int) else js.length) = (J.length : Int) := by
    split
    · omega
    · omega
  have wJ : Weak (.sl J.length (min (J.length * 2) (js.length * 2)) (fun j => slFs ptC 2 (0, 0) js j) false) (pts J) := by
    have h := weak_take ptC 2 (0, 0) js J.length (by omega) (by omega)
    have e : js.take J.length = J := by
      rw [hJn, hJ]
      by_cases h : 40 ≤ js.length
      · rw [Nat.min_eq_left h]
      · rw [Nat.min_eq_right (by omega), List.take_length, List.take_of_length_le (by omega)]
    rw [e] at h
    exact h
  have c1 := debts_fn J ps (by omega) hp
  have c2 := refdebts_fn J ps (by omega) hp
  obtain ⟨A, hA⟩ : ∃ A, A = debtsN J ps J.length := ⟨_, rfl⟩
  rw [← hA] at c1 c2
  have hAl : A.length ≤ 80 := by
    have := debtsN_len J ps J.length
    rw [hA]; omega
  have cs : ∀ B : List (Int × Int × Int), B.length < 1000000 → Fn Try.prog 5 [debts B, debts B] (.bool true) := fun B hB => by
    have := same_fn36 B B hB hB
    rwa [decide_eq_true rfl] at this
  have fj : ((J.length : Int) ≤ js.length) = True := eq_true (by omega)
  simp only [AS.start, fm, Int.sub_zero, Int.toNat_natCast, fj, ↓wPre, wPost, wFast, wCore, beq_self_eq_true, ite_true, ite_false, false_implies, true_implies, implies_true, eq_self, ne_eq, ↓reduceIte, reduceIte, Nat.reducePow, Nat.reduceLT, Nat.reduceLeDiff, Nat.reduceEqDiff, Nat.reduceAdd, Nat.reduceMul, Nat.reduceSub, Nat.reduceBEq, Nat.reduceDiv, Nat.reduceMod, reduceCtorEq, sl1, wFacts, zA, qA, qC, vA, vC, pts_def, bools_def, wSeq, nb_tf, nb_ft, nb_tt, nb_ff]
  refine call_weak c1 ⟨wJ, Weak.rfl' _, trivial⟩ ?_
  simp only [↓wPre, wPost, wFast, wCore, beq_self_eq_true, ite_true, ite_false, false_implies, true_implies, implies_true, eq_self, ne_eq, ↓reduceIte, reduceIte, Nat.reducePow, Nat.reduceLT, Nat.reduceLeDiff, Nat.reduceEqDiff, Nat.reduceAdd, Nat.reduceMul, Nat.reduceSub, Nat.reduceBEq, Nat.reduceDiv, Nat.reduceMod, reduceCtorEq, sl1, wFacts, zA, qA, qC, vA, vC, pts_def, bools_def, wSeq, nb_tf, nb_ft, nb_tt, nb_ff]
  refine call_fn (plain_fn A (by omega)) rfl ?_
  simp only [↓wPre, wPost, wFast, wCore, beq_self_eq_true, ite_true, ite_false, false_implies, true_implies, implies_true, eq_self, ne_eq, ↓reduceIte, reduceIte, Nat.reducePow, Nat.reduceLT, Nat.reduceLeDiff, Nat.reduceEqDiff, Nat.reduceAdd, Nat.reduceMul, Nat.reduceSub, Nat.reduceBEq, Nat.reduceDiv, Nat.reduceMod, reduceCtorEq, sl1, wFacts, zA, qA, qC, vA, vC, pts_def, bools_def, wSeq, nb_tf, nb_ft, nb_tt, nb_ff]
  refine call_weak c2 ⟨wJ, Weak.rfl' _, trivial⟩ ?_
  simp only [↓wPre, wPost, wFast, wCore, beq_self_eq_true, ite_true, ite_false, false_implies, true_implies, implies_true, eq_self, ne_eq, ↓reduceIte, reduceIte, Nat.reducePow, Nat.reduceLT, Nat.reduceLeDiff, Nat.reduceEqDiff, Nat.reduceAdd, Nat.reduceMul, Nat.reduceSub, Nat.reduceBEq, Nat.reduceDiv, Nat.reduceMod, reduceCtorEq, sl1, wFacts, zA, qA, qC, vA, vC, pts_def, bools_def, wSeq, nb_tf, nb_ft, nb_tt, nb_ff]
  refine call_fn (cs A (by omega)) rfl ?_
  simp only [↓wPre, wPost, wFast, wCore, beq_self_eq_true, ite_true, ite_false, false_implies, true_implies, implies_true, eq_self, ne_eq, ↓reduceIte, reduceIte, Nat.reducePow, Nat.reduceLT, Nat.reduceLeDiff, Nat.reduceEqDiff, Nat.reduceAdd, Nat.reduceMul, Nat.reduceSub, Nat.reduceBEq, Nat.reduceDiv, Nat.reduceMod, reduceCtorEq, sl1, wFacts, zA, qA, qC, vA, vC, pts_def, bools_def, wSeq, nb_tf, nb_ft, nb_tt, nb_ff]
  have hpre : ∀ k, k ≤ J.length → A.take (debtsN J ps k).length = debtsN J ps k ∧ (debtsN J ps k).length ≤ A.length := fun k hk => by
    obtain ⟨r, hr⟩ := debtsN_pre J ps k (J.length - k)
    rw [show k + (J.length - k) = J.length by omega, ← hA] at hr
    rw [hr]
    refine ⟨?_, by rw [List.length_append]; omega⟩
    rw [List.take_append_of_le_length (Nat.le_refl _), List.take_length]
  refine run_loop (fun k : Nat => ⟨11, [], [pts J, ints ps, .any, .any, .bool false, debts A, I ((debtsN J ps k).length : Nat), I k, .any, .any, .any], [], []⟩) (fun k => k ≤ J.length) (fun k => J.length - k) 0 (by omega)
    ?_ ?_
  · exact Sub.trans (sub_weak 0 (pts J) (Nat.le_of_ble_eq_true rfl) wJ) (sub_mk rfl (by simp [subL, pts_def, ints_def, I, debtsN]) (by simp [subT]) rfl)
  intro k hk next
  have w1 := wj k (by omega)
  by_cases hk2 : k < J.length
  rotate_left
  · obtain rfl : k = J.length := by omega
    have cl := lives_fn
    refine vc_soundN 1000 ?_
    simp only [pts_def, ints_def, debts_def, ← hA, Int.lt_irrefl, Nat.lt_irrefl, ↓wPre, wPost, wFast, wCore, beq_self_eq_true, ite_true, ite_false, false_implies, true_implies, implies_true, eq_self, ne_eq, ↓reduceIte, reduceIte, Nat.reducePow, Nat.reduceLT, Nat.reduceLeDiff, Nat.reduceEqDiff, Nat.reduceAdd, Nat.reduceMul, Nat.reduceSub, Nat.reduceBEq, Nat.reduceDiv, Nat.reduceMod, reduceCtorEq, sl1, wFacts, zA, qA, qC, vA, vC, pts_def, bools_def, wSeq, nb_tf, nb_ft, nb_tt, nb_ff]
    refine call_fn cl rfl ?_
    simp only [↓wPre, wPost, wFast, wCore, beq_self_eq_true, ite_true, ite_false, false_implies, true_implies, implies_true, eq_self, ne_eq, ↓reduceIte, reduceIte, Nat.reducePow, Nat.reduceLT, Nat.reduceLeDiff, Nat.reduceEqDiff, Nat.reduceAdd, Nat.reduceMul, Nat.reduceSub, Nat.reduceBEq, Nat.reduceDiv, Nat.reduceMod, reduceCtorEq, sl1, wFacts, zA, qA, qC, vA, vC, pts_def, bools_def, wSeq, nb_tf, nb_ft, nb_tt, nb_ff]
    exact ret1E rfl rfl (settled_bool _) rfl
  have f1 : ((k : Int) < J.length) = True := eq_true (by omega)
  have f2 : (k < J.length) = True := eq_true hk2
  have f3 : ((k : Int) ≤ J.length) = True := eq_true (by omega)
  obtain ⟨B, hB⟩ : ∃ B, B = debtsN J ps k := ⟨_, rfl⟩
  obtain ⟨hp1, hp2⟩ := hpre k (by omega)
  rw [← hB] at hp1 hp2
  have hBl := debtsN_len J ps k
  rw [← hB] at hBl
  have wk : Weak (.sl k (min (k * 2) (J.length * 2)) (fun j => slFs ptC 2 (0, 0) J j) false) (pts (J.take k)) := weak_take ptC 2 (0, 0) J k (by omega) (by omega)
  have wn : Weak (.sl B.length (min (B.length * 3) (A.length * 3)) (fun j => slFs dC 3 (0, 0, 0) A j) false) (debts B) := by
    have := weak_take dC 3 (0, 0, 0) A B.length (by omega) hp2
    rw [hp1] at this
    exact this
  have d1 := debts_fn (J.take k) ps (by rw [List.length_take]; omega) hp
  have hlk : (J.take k).length = k := by rw [List.length_take]; omega
  rw [hlk, debtsN_take J ps k k (Nat.le_refl _), ← hB] at d1
  have f4 : ((B.length : Int) ≤ A.length) = True := eq_true (by omega)
  have f5 : ((A.length : Int) < B.length) = False := eq_false (by omega)
  have f5' : (A.length < B.length) = False := eq_false (by omega)
  refine vc_soundN 1000 ?_
  simp only [pts_def, ints_def, debts_def, ← hB, f1, f2, f3, f4, f5, f5', Int.sub_zero, Int.toNat_natCast, ↓wPre, wPost, wFast, wCore, beq_self_eq_true, ite_true, ite_false, false_implies, true_implies, implies_true, eq_self, ne_eq, ↓reduceIte, reduceIte, Nat.reducePow, Nat.reduceLT, Nat.reduceLeDiff, Nat.reduceEqDiff, Nat.reduceAdd, Nat.reduceMul, Nat.reduceSub, Nat.reduceBEq, Nat.reduceDiv, Nat.reduceMod, reduceCtorEq, sl1, wFacts, zA, qA, qC, vA, vC, pts_def, bools_def, wSeq, nb_tf, nb_ft, nb_tt, nb_ff]
  refine call_weak d1 ⟨wk, Weak.rfl' _, trivial⟩ ?_
  simp only [pts_def, ints_def, debts_def, ← hB, f1, f2, f3, f4, f5, f5', Int.sub_zero, Int.toNat_natCast, ↓wPre, wPost, wFast, wCore, beq_self_eq_true, ite_true, ite_false, false_implies, true_implies, implies_true, eq_self, ne_eq, ↓reduceIte, reduceIte, Nat.reducePow, Nat.reduceLT, Nat.reduceLeDiff, Nat.reduceEqDiff, Nat.reduceAdd, Nat.reduceMul, Nat.reduceSub, Nat.reduceBEq, Nat.reduceDiv, Nat.reduceMod, reduceCtorEq, sl1, wFacts, zA, qA, qC, vA, vC, pts_def, bools_def, wSeq, nb_tf, nb_ft, nb_tt, nb_ff]
  refine call_fn (plain_fn B (by omega)) rfl ?_
  simp only [pts_def, ints_def, debts_def, ← hB, f1, f2, f3, f4, f5, f5', Int.sub_zero, Int.toNat_natCast, ↓wPre, wPost, wFast, wCore, beq_self_eq_true, ite_true, ite_false, false_implies, true_implies, implies_true, eq_self, ne_eq, ↓reduceIte, reduceIte, Nat.reducePow, Nat.reduceLT, Nat.reduceLeDiff, Nat.reduceEqDiff, Nat.reduceAdd, Nat.reduceMul, Nat.reduceSub, Nat.reduceBEq, Nat.reduceDiv, Nat.reduceMod, reduceCtorEq, sl1, wFacts, zA, qA, qC, vA, vC, pts_def, bools_def, wSeq, nb_tf, nb_ft, nb_tt, nb_ff]
  refine call_weak (plain_fn B (by omega)) ⟨wn, trivial⟩ ?_
  simp only [pts_def, ints_def, debts_def, ← hB, f1, f2, f3, f4, f5, f5', Int.sub_zero, Int.toNat_natCast, ↓wPre, wPost, wFast, wCore, beq_self_eq_true, ite_true, ite_false, false_implies, true_implies, implies_true, eq_self, ne_eq, ↓reduceIte, reduceIte, Nat.reducePow, Nat.reduceLT, Nat.reduceLeDiff, Nat.reduceEqDiff, Nat.reduceAdd, Nat.reduceMul, Nat.reduceSub, Nat.reduceBEq, Nat.reduceDiv, Nat.reduceMod, reduceCtorEq, sl1, wFacts, zA, qA, qC, vA, vC, pts_def, bools_def, wSeq, nb_tf, nb_ft, nb_tt, nb_ff]
  refine call_fn (cs B (by omega)) rfl ?_
  simp only [pts_def, ints_def, debts_def, ← hB, f1, f2, f3, f4, f5, f5', Int.sub_zero, Int.toNat_natCast, ↓wPre, wPost, wFast, wCore, beq_self_eq_true, ite_true, ite_false, false_implies, true_implies, implies_true, eq_self, ne_eq, ↓reduceIte, reduceIte, Nat.reducePow, Nat.reduceLT, Nat.reduceLeDiff, Nat.reduceEqDiff, Nat.reduceAdd, Nat.reduceMul, Nat.reduceSub, Nat.reduceBEq, Nat.reduceDiv, Nat.reduceMod, reduceCtorEq, sl1, wFacts, zA, qA, qC, vA, vC, pts_def, bools_def, wSeq, nb_tf, nb_ft, nb_tt, nb_ff]
  have t1 : (1 : Int).toNat = 1 := rfl
  have z0 : ((0 : Int) < ((2 : Nat) : Int)) = True := eq_true (by omega)
  have z1 : ((1 : Int) < ((2 : Nat) : Int)) = True := eq_true (by omega)
  have y0 : IntKind.i64.wrap (0 + 1) = 1 := by decide
  have y1 : IntKind.i64.wrap (1 + 1) = 2 := by decide
  have g3 : (k * 2 < J.length * 2) = True := eq_true (by omega)
  have g4 : (k * 2 + 1 < J.length * 2) = True := eq_true (by omega)
  have g5 : (k * 2 + 2 ≤ J.length * 2) = True := eq_true (by omega)
  have v1 := ptF J k
  have h1 := owes_len ps k (J.getD k (0, 0)).1
  have hN2 : B.length + (owes ps k (J.getD k (0, 0)).1).length + (owes ps k (J.getD k (0, 0)).2).length = (debtsN J ps (k + 1)).length := by
    simp only [debtsN, owesP, List.length_append]
    rw [hB]; omega
  let S : Nat → AV → AS := fun n q => ⟨11, [], [pts J, ints ps, .any, .any, .bool false, debts A, I n, I k, .any, q, .any], [], []⟩
  let Nm : Nat → Nat := fun m => match m with
    | 0 => B.length
    | 1 => B.length + (owes ps k (J.getD k (0, 0)).1).length
    | _ => (debtsN J ps (k + 1)).length
  refine run_loop (fun m : Nat => S (Nm m) (I m)) (fun m => m ≤ 2) (fun m => 2 - m) 0 (by omega)
    (sub_mk rfl (by simp [S, Nm, subL, pts_def, ints_def, debts_def, I]) (by simp [S, subT]) rfl) ?_
  intro m hm nextm
  have hcase : m = 0 ∨ m = 1 ∨ m = 2 := by omega
  rcases hcase with rfl | rfl | rfl
  rotate_right
  · have e2 : ((2 : Nat) : Int) = 2 := rfl
    refine vc_soundN 1000 ?_
    simp only [S, e2, Int.lt_irrefl, w1, ↓wPre, wPost, wFast, wCore, beq_self_eq_true, ite_true, ite_false, false_implies, true_implies, implies_true, eq_self, ne_eq, ↓reduceIte, reduceIte, Nat.reducePow, Nat.reduceLT, Nat.reduceLeDiff, Nat.reduceEqDiff, Nat.reduceAdd, Nat.reduceMul, Nat.reduceSub, Nat.reduceBEq, Nat.reduceDiv, Nat.reduceMod, reduceCtorEq, sl1, wFacts, zA, qA, qC, vA, vC, pts_def, bools_def, wSeq, nb_tf, nb_ft, nb_tt, nb_ff]
    exact next (k + 1) _ (by omega) (by omega) (sub_mk rfl (by simp [S, Nm, subL, pts_def, ints_def, debts_def, I]) (by simp [S, subT]) rfl)
  · have nx : ∀ s', 1 ≤ 2 → 2 - 1 < 2 - 0 → Sub 0 s' (S (B.length + (owes ps k (J.getD k (0, 0)).1).length) (I 1)) → Run _ _ s' := fun s' h1 h2 h3 => nextm 1 s' h1 h2 h3
    show Run _ _ (S (B.length) (I 0))
    obtain ⟨n0, e0⟩ : ∃ n0, n0 = B.length := ⟨_, rfl⟩
    obtain ⟨n1, e1⟩ : ∃ n1, n1 = B.length + (owes ps k (J.getD k (0, 0)).1).length := ⟨_, rfl⟩
    have hd : n0 + (owes ps k (J.getD k (0, 0)).1).length = n1 := by rw [e0, e1]
    have hb : n0 < 1000 := by rw [e0]; omega
    have w6 : IntKind.i64.wrap ((n0 : Int) + 1) = ((n0 + 1 : Nat) : Int) := wj n0 (by omega)
    rw [← e1] at nx
    rw [← e0]
    clear e0 e1
    by_cases g0 : 0 ≤ (J.getD k (0, 0)).1
    rotate_left
    · have k0 : (0 ≤ (J.getD k (0, 0)).1) = False := eq_false g0
      have ho : owes ps k (J.getD k (0, 0)).1 = [] := by unfold owes standN; rw [if_neg (by omega)]
      rw [ho] at hd
      have hd' : n0 = n1 := hd
      subst hd'
      refine vc_soundN 1000 ?_
      simp only [S, pts_def, ints_def, debts_def, f1, f2, g3, g4, g5, v1, z0, z1, y0, y1, w6, Nat.add_zero, Int.toNat_natCast, Int.toNat_zero, Int.reduceLT, Int.reduceLE, t1, k0, ↓wPre, wPost, wFast, wCore, beq_self_eq_true, ite_true, ite_false, false_implies, true_implies, implies_true, eq_self, ne_eq, ↓reduceIte, reduceIte, Nat.reducePow, Nat.reduceLT, Nat.reduceLeDiff, Nat.reduceEqDiff, Nat.reduceAdd, Nat.reduceMul, Nat.reduceSub, Nat.reduceBEq, Nat.reduceDiv, Nat.reduceMod, reduceCtorEq, sl1, wFacts, zA, qA, qC, vA, vC, pts_def, bools_def, wSeq, nb_tf, nb_ft, nb_tt, nb_ff]
      exact nx _ (by omega) (by omega) (sub_mk rfl (by simp [S, subL, pts_def, ints_def, debts_def, I]) (by simp [S, subT]) rfl)
    have k0 : (0 ≤ (J.getD k (0, 0)).1) = True := eq_true g0
    have k0' : ((J.getD k (0, 0)).1 < 0) = False := eq_false (by omega)
    by_cases g1 : (J.getD k (0, 0)).1 < (ps.length : Int)
    rotate_left
    · have k1 : ((J.getD k (0, 0)).1 < (ps.length : Int)) = False := eq_false g1
      have ho : owes ps k (J.getD k (0, 0)).1 = [] := by unfold owes standN; rw [if_neg (by omega)]
      rw [ho] at hd
      have hd' : n0 = n1 := hd
      subst hd'
      refine vc_soundN 1000 ?_
      simp only [S, pts_def, ints_def, debts_def, f1, f2, g3, g4, g5, v1, z0, z1, y0, y1, w6, Nat.add_zero, Int.toNat_natCast, Int.toNat_zero, Int.reduceLT, Int.reduceLE, t1, k0, k0', k1, ↓wPre, wPost, wFast, wCore, beq_self_eq_true, ite_true, ite_false, false_implies, true_implies, implies_true, eq_self, ne_eq, ↓reduceIte, reduceIte, Nat.reducePow, Nat.reduceLT, Nat.reduceLeDiff, Nat.reduceEqDiff, Nat.reduceAdd, Nat.reduceMul, Nat.reduceSub, Nat.reduceBEq, Nat.reduceDiv, Nat.reduceMod, reduceCtorEq, sl1, wFacts, zA, qA, qC, vA, vC, pts_def, bools_def, wSeq, nb_tf, nb_ft, nb_tt, nb_ff]
      exact nx _ (by omega) (by omega) (sub_mk rfl (by simp [S, subL, pts_def, ints_def, debts_def, I]) (by simp [S, subT]) rfl)
    have k1 : ((J.getD k (0, 0)).1 < (ps.length : Int)) = True := eq_true g1
    have k1'' : (((J.getD k (0, 0)).1).toNat < ps.length) = True := eq_true (by omega)
    by_cases g2 : 0 ≤ ps.getD ((J.getD k (0, 0)).1).toNat 0
    rotate_left
    · have k2 : (0 ≤ ps.getD ((J.getD k (0, 0)).1).toNat 0) = False := eq_false g2
      have ho : owes ps k (J.getD k (0, 0)).1 = [] := by unfold owes standN; rw [if_neg fun h => g2 h.2.2]
      rw [ho] at hd
      have hd' : n0 = n1 := hd
      subst hd'
      refine vc_soundN 1000 ?_
      simp only [S, pts_def, ints_def, debts_def, f1, f2, g3, g4, g5, v1, z0, z1, y0, y1, w6, Nat.add_zero, Int.toNat_natCast, Int.toNat_zero, Int.reduceLT, Int.reduceLE, t1, k0, k0', k1, k1'', k2, ↓wPre, wPost, wFast, wCore, beq_self_eq_true, ite_true, ite_false, false_implies, true_implies, implies_true, eq_self, ne_eq, ↓reduceIte, reduceIte, Nat.reducePow, Nat.reduceLT, Nat.reduceLeDiff, Nat.reduceEqDiff, Nat.reduceAdd, Nat.reduceMul, Nat.reduceSub, Nat.reduceBEq, Nat.reduceDiv, Nat.reduceMod, reduceCtorEq, sl1, wFacts, zA, qA, qC, vA, vC, pts_def, bools_def, wSeq, nb_tf, nb_ft, nb_tt, nb_ff]
      exact nx _ (by omega) (by omega) (sub_mk rfl (by simp [S, subL, pts_def, ints_def, debts_def, I]) (by simp [S, subT]) rfl)
    have k2 : (0 ≤ ps.getD ((J.getD k (0, 0)).1).toNat 0) = True := eq_true g2
    have ho : owes ps k (J.getD k (0, 0)).1 = [((k : Int), (J.getD k (0, 0)).1, ps.getD ((J.getD k (0, 0)).1).toNat 0)] := by unfold owes standN; rw [if_pos ⟨by omega, by omega, g2⟩]
    rw [ho] at hd
    have hd' : n0 + 1 = n1 := hd
    subst hd'
    refine vc_soundN 1000 ?_
    simp only [S, pts_def, ints_def, debts_def, f1, f2, g3, g4, g5, v1, z0, z1, y0, y1, w6, Nat.add_zero, Int.toNat_natCast, Int.toNat_zero, Int.reduceLT, Int.reduceLE, t1, k0, k0', k1, k1'', k2, ↓wPre, wPost, wFast, wCore, beq_self_eq_true, ite_true, ite_false, false_implies, true_implies, implies_true, eq_self, ne_eq, ↓reduceIte, reduceIte, Nat.reducePow, Nat.reduceLT, Nat.reduceLeDiff, Nat.reduceEqDiff, Nat.reduceAdd, Nat.reduceMul, Nat.reduceSub, Nat.reduceBEq, Nat.reduceDiv, Nat.reduceMod, reduceCtorEq, sl1, wFacts, zA, qA, qC, vA, vC, pts_def, bools_def, wSeq, nb_tf, nb_ft, nb_tt, nb_ff]
    exact nx _ (by omega) (by omega) (sub_mk rfl (by simp [S, subL, pts_def, ints_def, debts_def, I]) (by simp [S, subT]) rfl)
  · have nx : ∀ s', 2 ≤ 2 → 2 - 2 < 2 - 1 → Sub 0 s' (S ((debtsN J ps (k + 1)).length) (I 2)) → Run _ _ s' := fun s' h1 h2 h3 => nextm 2 s' h1 h2 h3
    show Run _ _ (S (B.length + (owes ps k (J.getD k (0, 0)).1).length) (I 1))
    obtain ⟨n0, e0⟩ : ∃ n0, n0 = B.length + (owes ps k (J.getD k (0, 0)).1).length := ⟨_, rfl⟩
    obtain ⟨n1, e1⟩ : ∃ n1, n1 = (debtsN J ps (k + 1)).length := ⟨_, rfl⟩
    have hd : n0 + (owes ps k (J.getD k (0, 0)).2).length = n1 := by rw [e0, e1]; exact hN2
    have hb : n0 < 1000 := by rw [e0]; omega
    have w6 : IntKind.i64.wrap ((n0 : Int) + 1) = ((n0 + 1 : Nat) : Int) := wj n0 (by omega)
    rw [← e1] at nx
    rw [← e0]
    clear e0 e1
    by_cases g0 : 0 ≤ (J.getD k (0, 0)).2
    rotate_left
    · have k0 : (0 ≤ (J.getD k (0, 0)).2) = False := eq_false g0
      have ho : owes ps k (J.getD k (0, 0)).2 = [] := by unfold owes standN; rw [if_neg (by omega)]
      rw [ho] at hd
      have hd' : n0 = n1 := hd
      subst hd'
      refine vc_soundN 1000 ?_
      simp only [S, pts_def, ints_def, debts_def, f1, f2, g3, g4, g5, v1, z0, z1, y0, y1, w6, Nat.add_zero, Int.toNat_natCast, Int.toNat_zero, Int.reduceLT, Int.reduceLE, t1, k0, ↓wPre, wPost, wFast, wCore, beq_self_eq_true, ite_true, ite_false, false_implies, true_implies, implies_true, eq_self, ne_eq, ↓reduceIte, reduceIte, Nat.reducePow, Nat.reduceLT, Nat.reduceLeDiff, Nat.reduceEqDiff, Nat.reduceAdd, Nat.reduceMul, Nat.reduceSub, Nat.reduceBEq, Nat.reduceDiv, Nat.reduceMod, reduceCtorEq, sl1, wFacts, zA, qA, qC, vA, vC, pts_def, bools_def, wSeq, nb_tf, nb_ft, nb_tt, nb_ff]
      exact nx _ (by omega) (by omega) (sub_mk rfl (by simp [S, subL, pts_def, ints_def, debts_def, I]) (by simp [S, subT]) rfl)
    have k0 : (0 ≤ (J.getD k (0, 0)).2) = True := eq_true g0
    have k0' : ((J.getD k (0, 0)).2 < 0) = False := eq_false (by omega)
    by_cases g1 : (J.getD k (0, 0)).2 < (ps.length : Int)
    rotate_left
    · have k1 : ((J.getD k (0, 0)).2 < (ps.length : Int)) = False := eq_false g1
      have ho : owes ps k (J.getD k (0, 0)).2 = [] := by unfold owes standN; rw [if_neg (by omega)]
      rw [ho] at hd
      have hd' : n0 = n1 := hd
      subst hd'
      refine vc_soundN 1000 ?_
      simp only [S, pts_def, ints_def, debts_def, f1, f2, g3, g4, g5, v1, z0, z1, y0, y1, w6, Nat.add_zero, Int.toNat_natCast, Int.toNat_zero, Int.reduceLT, Int.reduceLE, t1, k0, k0', k1, ↓wPre, wPost, wFast, wCore, beq_self_eq_true, ite_true, ite_false, false_implies, true_implies, implies_true, eq_self, ne_eq, ↓reduceIte, reduceIte, Nat.reducePow, Nat.reduceLT, Nat.reduceLeDiff, Nat.reduceEqDiff, Nat.reduceAdd, Nat.reduceMul, Nat.reduceSub, Nat.reduceBEq, Nat.reduceDiv, Nat.reduceMod, reduceCtorEq, sl1, wFacts, zA, qA, qC, vA, vC, pts_def, bools_def, wSeq, nb_tf, nb_ft, nb_tt, nb_ff]
      exact nx _ (by omega) (by omega) (sub_mk rfl (by simp [S, subL, pts_def, ints_def, debts_def, I]) (by simp [S, subT]) rfl)
    have k1 : ((J.getD k (0, 0)).2 < (ps.length : Int)) = True := eq_true g1
    have k1'' : (((J.getD k (0, 0)).2).toNat < ps.length) = True := eq_true (by omega)
    by_cases g2 : 0 ≤ ps.getD ((J.getD k (0, 0)).2).toNat 0
    rotate_left
    · have k2 : (0 ≤ ps.getD ((J.getD k (0, 0)).2).toNat 0) = False := eq_false g2
      have ho : owes ps k (J.getD k (0, 0)).2 = [] := by unfold owes standN; rw [if_neg fun h => g2 h.2.2]
      rw [ho] at hd
      have hd' : n0 = n1 := hd
      subst hd'
      refine vc_soundN 1000 ?_
      simp only [S, pts_def, ints_def, debts_def, f1, f2, g3, g4, g5, v1, z0, z1, y0, y1, w6, Nat.add_zero, Int.toNat_natCast, Int.toNat_zero, Int.reduceLT, Int.reduceLE, t1, k0, k0', k1, k1'', k2, ↓wPre, wPost, wFast, wCore, beq_self_eq_true, ite_true, ite_false, false_implies, true_implies, implies_true, eq_self, ne_eq, ↓reduceIte, reduceIte, Nat.reducePow, Nat.reduceLT, Nat.reduceLeDiff, Nat.reduceEqDiff, Nat.reduceAdd, Nat.reduceMul, Nat.reduceSub, Nat.reduceBEq, Nat.reduceDiv, Nat.reduceMod, reduceCtorEq, sl1, wFacts, zA, qA, qC, vA, vC, pts_def, bools_def, wSeq, nb_tf, nb_ft, nb_tt, nb_ff]
      exact nx _ (by omega) (by omega) (sub_mk rfl (by simp [S, subL, pts_def, ints_def, debts_def, I]) (by simp [S, subT]) rfl)
    have k2 : (0 ≤ ps.getD ((J.getD k (0, 0)).2).toNat 0) = True := eq_true g2
    have ho : owes ps k (J.getD k (0, 0)).2 = [((k : Int), (J.getD k (0, 0)).2, ps.getD ((J.getD k (0, 0)).2).toNat 0)] := by unfold owes standN; rw [if_pos ⟨by omega, by omega, g2⟩]
    rw [ho] at hd
    have hd' : n0 + 1 = n1 := hd
    subst hd'
    refine vc_soundN 1000 ?_
    simp only [S, pts_def, ints_def, debts_def, f1, f2, g3, g4, g5, v1, z0, z1, y0, y1, w6, Nat.add_zero, Int.toNat_natCast, Int.toNat_zero, Int.reduceLT, Int.reduceLE, t1, k0, k0', k1, k1'', k2, ↓wPre, wPost, wFast, wCore, beq_self_eq_true, ite_true, ite_false, false_implies, true_implies, implies_true, eq_self, ne_eq, ↓reduceIte, reduceIte, Nat.reducePow, Nat.reduceLT, Nat.reduceLeDiff, Nat.reduceEqDiff, Nat.reduceAdd, Nat.reduceMul, Nat.reduceSub, Nat.reduceBEq, Nat.reduceDiv, Nat.reduceMod, reduceCtorEq, sl1, wFacts, zA, qA, qC, vA, vC, pts_def, bools_def, wSeq, nb_tf, nb_ft, nb_tt, nb_ff]
    exact nx _ (by omega) (by omega) (sub_mk rfl (by simp [S, subL, pts_def, ints_def, debts_def, I]) (by simp [S, subT]) rfl)
end
end Go.Ab.N

namespace Go.Ab.N
open Go Go.RowKit Go.Proofs Go.ChangeShapes Go.WideShapes Go.ChangeAt
noncomputable section
set_option linter.unusedSimpArgs false
set_option linter.unusedVariables false
variable {H : Type} {enc : TypeId × Value → H} {P : Program}

/-- A slice of pairs of numbers, as an argument. -/
theorem open_pairs {t e q : TypeId} {r : Reach} {b0 : Nat} {base : Nat} {sp : Nat → Bool} {held : Bool} {W : World} {v : Value} {d : DataW H} {ps : List MemPlace} (ht : P.underlying t = some (.slice e)) (he : P.underlying e = some (.array 2 q)) (hq : P.underlying q = some (.int .i64)) (ce : P.cellsOf e = 2) (cq : P.cellsOf q = 1)
    (hval : Value.okWide P W r b0 t v) (h : DataW.Trod enc P W base sp held t v d ps) :
    ∃ l : List (Int × Int), l.length ≤ maxLen ∧ Rep (.bare W (allOf W)) v (pts l) := by
  obtain ⟨a0, len, cap, rfl⟩ := okWide_slice ht hval
  obtain ⟨fuel, hf⟩ := h
  rcases Deep.open_slice ht hf with ⟨hcs, hx⟩ | ⟨a, len', cap', m, n, D, Pl, hcs, hb, hl, hm, hmm, hx, hel⟩
  · simp [Value.cells] at hcs
    obtain ⟨rfl, rfl, rfl⟩ := hcs
    exact ⟨[], by simp, .slz _ _ _ _ (by simp)⟩
  · simp [Value.cells] at hcs
    obtain ⟨rfl, rfl, rfl⟩ := hcs
    have hlm : len ≤ m := by rw [hmm]; split <;> omega
    have each : ∀ i, i < len → ∃ p : Int × Int, W.cell? (a.add (i * 2)) = some (.int .i64 p.1) ∧ W.cell? (a.add (i * 2 + 1)) = some (.int .i64 p.2) := by
      intro i hi
      obtain ⟨cs', h1, h2⟩ := hel i (by omega)
      rw [ce] at h1
      obtain ⟨_, hlen, hcell⟩ := World.cells?_some h1
      obtain ⟨xs, k, _, _, _, hxl, hg⟩ := DataW.trod_array he h2
      match cs', hlen with
      | [v0, v1], _ =>
        have g0 := hg 0 (by omega)
        have g1 := hg 1 (by omega)
        rw [cq] at g0 g1
        rw [List.getElem?_eq_getElem (by omega)] at g0 g1
        have c0 := hcell 0 (by omega)
        have c1 := hcell 1 (by omega)
        obtain ⟨z0, e0, _, _⟩ := DataW.trod_int hq g0
        obtain ⟨z1, e1, _, _⟩ := DataW.trod_int hq g1
        simp at e0 e1
        subst e0; subst e1
        rw [Deep.add_add] at c0 c1
        exact ⟨(z0, z1), by simpa using c0, by simpa using c1⟩
    obtain ⟨f, hf'⟩ := Deep.choose_lt each
    have hll : ((List.range len).map f).length = len := by simp
    refine ⟨(List.range len).map f, by rw [hll]; exact Nat.le_trans hl hm, ?_⟩
    rw [pts_def, hll]
    rcases Nat.eq_zero_or_pos len with h0 | h0
    · subst h0; exact .slz _ _ _ _ (by simp)
    · have c0 := (hf' 0 h0).1
      have hsp : a.spot = none := by
        unfold World.cell? at c0
        split at c0
        · cases hs : a.spot with
          | none => rfl
          | some s => simp [Addr.add, hs] at c0
        · cases c0
      obtain ⟨ab, ao, asp⟩ := a
      simp only at hsp
      subst hsp
      have hb : ab < W.heap.size := by
        unfold World.cell? at c0
        split at c0
        · rename_i h; exact (Array.getElem?_eq_some_iff.1 h).1
        · cases c0
      have hget : ∀ i, i < len → ((List.range len).map f).getD i (0, 0) = f i := fun i hi => by
        rw [List.getD_eq_getElem?_getD, List.getElem?_map, List.getElem?_range hi]; rfl
      refine .sl ab ao len (len * 2) cap _ false (fun j => if j % 2 = 0 then .int .i64 (f (j / 2)).1 else .int .i64 (f (j / 2)).2) hb (fun j hj => ?_) (fun j hj => ?_) hl (by simp)
      · have hi : j / 2 < len := by omega
        obtain ⟨k1, k2⟩ := hf' (j / 2) hi
        by_cases h2 : j % 2 = 0
        · rw [if_pos h2]
          have : j / 2 * 2 = j := by omega
          rw [this, Addr.add_lit] at k1
          exact k1
        · rw [if_neg h2]
          have : j / 2 * 2 + 1 = j := by omega
          rw [this, Addr.add_lit] at k2
          exact k2
      · have hi : j / 2 < len := by omega
        have e : slFs ptC 2 (0, 0) ((List.range len).map f) j = (ptC (f (j / 2))).getD (j % 2) .any := by
          unfold slFs
          rw [hget _ hi]
        rw [e]
        by_cases h2 : j % 2 = 0
        · rw [if_pos h2, h2]; exact .int _ _
        · have h3 : j % 2 = 1 := by omega
          rw [if_neg h2, h3]; exact .int _ _
end
end Go.Ab.N

