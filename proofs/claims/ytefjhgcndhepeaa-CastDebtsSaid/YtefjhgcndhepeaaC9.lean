/- Contracts of functions of these chapters, for every argument that fits, and what they need. -/
import Derived.Test.YtefjhgcndhepeaaC8
set_option linter.unusedSimpArgs false
set_option linter.unusedVariables false
namespace Go.Ab.N
open Go Go.RowKit Go.Proofs
noncomputable section
set_option maxRecDepth 10000
set_option maxHeartbeats 2000000
set_option linter.unusedSimpArgs false
set_option linter.unusedVariables false
open Classical

/-! ### Which polygons are valid -/
theorem at_fn (L : List V2) (i : Nat) (hn : L.length < 1000000) (h0 : L.length ≠ 0) (hi : i < 1000000000) :
    Fn Try.prog 64 [I i, .ptr 1 (ofL [vecs L]) 0, .ptr 1 (ofL [I L.length]) 0] (vA (L.getD (i % L.length) v0)) := by
  obtain ⟨R, hR⟩ : ∃ R, R = vA (L.getD (i % L.length) v0) := ⟨_, rfl⟩
  have sR : Settled R := hR ▸ settled_vA _
  have hm : (i : Int).tmod L.length = ((i % L.length : Nat) : Int) := rfl
  have hml : i % L.length < L.length := Nat.mod_lt _ (by omega)
  have f4 : (i % L.length < L.length) = True := eq_true hml
  have f5 : (i % L.length * 8 + 8 ≤ L.length * 8) = True := eq_true (by omega)
  have f6 : ((L.length : Int) = 0) = False := eq_false (by omega)
  have f6' : (L.length = 0) = False := eq_false h0
  have v1 := vF L (i % L.length)
  have hs0 : Settled (.ptr 1 (ofL [vecs L]) 0) := settled_ptr fun j hj => by obtain rfl : j = 0 := by omega
                                                                             exact settled_vecs L
  have hs1 : Settled (.ptr 1 (ofL [I L.length]) 0) := settled_ptr fun j hj => by obtain rfl : j = 0 := by omega
                                                                                 exact settled_I _
  rw [← hR]
  refine Fn.intro (fn := Try.f64) Try.call64 Try.func64 rfl mixed 5 [] [] [] (by kernel_rfl) (Nat.le_of_ble_eq_true rfl) (by simp [settled_I, hs0, hs1]) (vc_soundN 1000 ?_)
  simp only [AS.start, vecs_def, f4, f5, f6, f6', hm, v1, Int.toNat_natCast, ↓wPre, wPost, wFast, wCore, beq_self_eq_true, ite_true, ite_false, false_implies, true_implies, implies_true, eq_self, ne_eq, ↓reduceIte, reduceIte, Nat.reducePow, Nat.reduceLT, Nat.reduceLeDiff, Nat.reduceEqDiff, Nat.reduceAdd, Nat.reduceMul, Nat.reduceSub, Nat.reduceBEq, Nat.reduceDiv, Nat.reduceMod, reduceCtorEq, sl1, wFacts, zA, qA, qC, vA, vC, wSeq, nb_tf, nb_ft, nb_tt, nb_ff]
  exact retV rfl ldk96 rfl rfl rfl sR (hR.trans rfl)

def atF (L : List V2) (i : Nat) : V2 := L.getD (i % L.length) v0
def badSide (L : List V2) (i : Nat) : Prop := side (atF L i) (atF L (i + 1)) (atF L (i + 2)) = 0
def badPair (L : List V2) (i k : Nat) : Prop := (k + 1) % L.length ≠ i ∧ meetsF (atF L i) (atF L (i + 1)) (atF L k) (atF L (k + 1)) = true
def goodAt (L : List V2) (i : Nat) : Prop := ¬ badSide L i ∧ ∀ k, i + 2 ≤ k → k < L.length → ¬ badPair L i k
/-- A valid polygon, as the program checks it. -/
def polyOk (L : List V2) : Prop := (3 ≤ L.length ∧ L.length ≤ 12) ∧ (∀ i, i < L.length → goodAt L i) ∧ 0 < (areaF L).num.sign
theorem pvalid_fn (L : List V2) (h : smallV L 1000) (hl : L.length < 1000000) : Fn Try.prog 38 [vecs L] (.bool (decide (polyOk L))) := by
  obtain ⟨V, hV⟩ : ∃ V, V = decide (polyOk L) := ⟨_, rfl⟩
  rw [← hV]
  have fin : ∀ {s : AS} {v : Bool}, s.get 2 = .bool v → v = V → RetOk (envP Try.prog Try.f38 [] [] (.bool V)) s := fun h e => ret1E rfl h (settled_bool _) (by rw [e])
  have hs0 : Settled (.ptr 1 (ofL [vecs L]) 0) := settled_ptr fun j hj => by obtain rfl : j = 0 := by omega
                                                                             exact settled_vecs L
  have hs1 : Settled (.ptr 1 (ofL [I L.length]) 0) := settled_ptr fun j hj => by obtain rfl : j = 0 := by omega
                                                                                 exact settled_I _
  have sm : ∀ i, vb (atF L i) ≤ vs := fun i => by have := h (i % L.length); unfold atF vs; omega
  refine Fn.intro (fn := Try.f38) Try.call38 Try.func38 rfl mixed 9 [17, 18, 19, 35, 36] [] [] (by kernel_rfl) (Nat.le_of_ble_eq_true rfl) (by simp [settled_vecs]) (vc_soundN 1000 ?_)
  by_cases hlo : (L.length : Int) < 3
  · have f1 : ((L.length : Int) < 3) = True := eq_true hlo
    simp only [AS.start, vecs_def, f1, ↓wPre, wPost, wFast, wCore, beq_self_eq_true, ite_true, ite_false, false_implies, true_implies, implies_true, eq_self, ne_eq, ↓reduceIte, reduceIte, Nat.reducePow, Nat.reduceLT, Nat.reduceLeDiff, Nat.reduceEqDiff, Nat.reduceAdd, Nat.reduceMul, Nat.reduceSub, Nat.reduceBEq, Nat.reduceDiv, Nat.reduceMod, reduceCtorEq, sl1, wFacts, zA, qA, qC, vA, vC, wSeq, nb_tf, nb_ft, nb_tt, nb_ff]
    exact fin rfl (by rw [hV, decide_eq_false]; unfold polyOk; omega)
  have f1 : ((L.length : Int) < 3) = False := eq_false hlo
  by_cases hhi : (12 : Int) < L.length
  · have f2 : ((12 : Int) < L.length) = True := eq_true hhi
    simp only [AS.start, vecs_def, f1, f2, ↓wPre, wPost, wFast, wCore, beq_self_eq_true, ite_true, ite_false, false_implies, true_implies, implies_true, eq_self, ne_eq, ↓reduceIte, reduceIte, Nat.reducePow, Nat.reduceLT, Nat.reduceLeDiff, Nat.reduceEqDiff, Nat.reduceAdd, Nat.reduceMul, Nat.reduceSub, Nat.reduceBEq, Nat.reduceDiv, Nat.reduceMod, reduceCtorEq, sl1, wFacts, zA, qA, qC, vA, vC, wSeq, nb_tf, nb_ft, nb_tt, nb_ff]
    exact fin rfl (by rw [hV, decide_eq_false]; unfold polyOk; omega)
  have f2 : ((12 : Int) < L.length) = False := eq_false hhi
  simp only [AS.start, vecs_def, f1, f2, ↓wPre, wPost, wFast, wCore, beq_self_eq_true, ite_true, ite_false, false_implies, true_implies, implies_true, eq_self, ne_eq, ↓reduceIte, reduceIte, Nat.reducePow, Nat.reduceLT, Nat.reduceLeDiff, Nat.reduceEqDiff, Nat.reduceAdd, Nat.reduceMul, Nat.reduceSub, Nat.reduceBEq, Nat.reduceDiv, Nat.reduceMod, reduceCtorEq, sl1, wFacts, zA, qA, qC, vA, vC, wSeq, nb_tf, nb_ft, nb_tt, nb_ff]
  have b0 : Bel 0 (.ptr 1 (ofL [vecs L]) 0) = True := eq_true (bel_of_settled hs0)
  have b1 : Bel 0 (.ptr 1 (ofL [I L.length]) 0) = True := eq_true (bel_of_settled hs1)
  have b2 : Bel 0 (vecs L) = True := eq_true (bel_of_settled (settled_vecs L))
  refine run_loop (fun i : Nat => ⟨9, [17, 18, 19, 35, 36], [.any, .ptr 1 (ofL [vecs L]) 0, .bool false, .ptr 1 (ofL [I L.length]) 0, .any, .any, .any, .any, .any], [(17, vecs L), (18, I L.length), (19, I i)], []⟩) (fun i => i ≤ L.length) (fun i => L.length - i) 0 (by omega)
    ((sub_con 0 rfl).trans ((sub_con 1 rfl).trans ((sub_viewP 1 rfl rfl (by omega)).trans ((sub_viewP 3 rfl rfl (by omega)).trans (sub_cut (m := 0) (Nat.zero_le _) rfl (by simp [AS.put, vecs_def, subL, ints, sl1, I]) (by simp [AS.put, vecs_def, subT, look, I]) rfl (by simp [b0, b1, wBel]) (by simp [b2, wBel]) (by simp)))))) ?_
  intro i hi next
  have w1 := wj i (by omega)
  have rv : ∀ r : Rat, qb r ≤ 1000 → Fn Try.prog 15 [qA r] (.bool true) := fun r hr => by
    have h1 := RQ.of_sz r
    have := rvalid_fn (RQ.of r) (by omega)
    rwa [decide_eq_true ⟨r, rfl⟩] at this
  by_cases hi2 : i < L.length
  · have f3 : ((i : Int) < L.length) = True := eq_true (by omega)
    have f4 : (i < L.length) = True := eq_true hi2
    have f5 : (i * 8 + 8 ≤ L.length * 8) = True := eq_true (by omega)
    have v1 := vF L i
    have hx := vb_x (L.getD i v0); have hy := vb_y (L.getD i v0); have hb := h i
    refine vc_soundN 1000 ?_
    simp only [vecs_def, w1, f3, f4, f5, v1, Int.toNat_natCast, ↓wPre, wPost, wFast, wCore, beq_self_eq_true, ite_true, ite_false, false_implies, true_implies, implies_true, eq_self, ne_eq, ↓reduceIte, reduceIte, Nat.reducePow, Nat.reduceLT, Nat.reduceLeDiff, Nat.reduceEqDiff, Nat.reduceAdd, Nat.reduceMul, Nat.reduceSub, Nat.reduceBEq, Nat.reduceDiv, Nat.reduceMod, reduceCtorEq, sl1, wFacts, zA, qA, qC, vA, vC, wSeq, nb_tf, nb_ft, nb_tt, nb_ff]
    refine call_fn (rv (L.getD i v0).x (by omega)) rfl ?_
    simp only [↓wPre, wPost, wFast, wCore, beq_self_eq_true, ite_true, ite_false, false_implies, true_implies, implies_true, eq_self, ne_eq, ↓reduceIte, reduceIte, Nat.reducePow, Nat.reduceLT, Nat.reduceLeDiff, Nat.reduceEqDiff, Nat.reduceAdd, Nat.reduceMul, Nat.reduceSub, Nat.reduceBEq, Nat.reduceDiv, Nat.reduceMod, reduceCtorEq, sl1, wFacts, zA, qA, qC, vA, vC, wSeq, nb_tf, nb_ft, nb_tt, nb_ff]
    refine call_fn (rv (L.getD i v0).y (by omega)) rfl ?_
    simp only [w1, ↓wPre, wPost, wFast, wCore, beq_self_eq_true, ite_true, ite_false, false_implies, true_implies, implies_true, eq_self, ne_eq, ↓reduceIte, reduceIte, Nat.reducePow, Nat.reduceLT, Nat.reduceLeDiff, Nat.reduceEqDiff, Nat.reduceAdd, Nat.reduceMul, Nat.reduceSub, Nat.reduceBEq, Nat.reduceDiv, Nat.reduceMod, reduceCtorEq, sl1, wFacts, zA, qA, qC, vA, vC, wSeq, nb_tf, nb_ft, nb_tt, nb_ff]
    exact next (i + 1) _ (by omega) (by omega) (sub_cut (m := 0) (Nat.zero_le _) rfl (by simp [vecs_def, subL, ints, sl1, I]) (by simp [vecs_def, subT, look, I]) rfl (by simp [b0, b1, wBel]) (by simp [b2, wBel]) (by simp))
  obtain rfl : i = L.length := by omega
  refine vc_soundN 1000 ?_
  simp only [vecs_def, Int.lt_irrefl, Nat.lt_irrefl, ↓wPre, wPost, wFast, wCore, beq_self_eq_true, ite_true, ite_false, false_implies, true_implies, implies_true, eq_self, ne_eq, ↓reduceIte, reduceIte, Nat.reducePow, Nat.reduceLT, Nat.reduceLeDiff, Nat.reduceEqDiff, Nat.reduceAdd, Nat.reduceMul, Nat.reduceSub, Nat.reduceBEq, Nat.reduceDiv, Nat.reduceMod, reduceCtorEq, sl1, wFacts, zA, qA, qC, vA, vC, wSeq, nb_tf, nb_ft, nb_tt, nb_ff]
  have hn0 : L.length ≠ 0 := by omega
  have cat : ∀ j : Nat, j < 1000000000 → Fn Try.prog 64 [I j, .ptr 1 (ofL [vecs L]) 0, .ptr 1 (ofL [I L.length]) 0] (vA (atF L j)) := fun j hj => at_fn L j hl hn0 hj
  have b3 : Bel 0 (.fn 64 [.ptr 1 (ofL [vecs L]) 0, .ptr 1 (ofL [I L.length]) 0]) = True := eq_true (bel_of_settled (settled_fn (by
    intro a ha
    simp only [List.mem_cons, List.not_mem_nil, or_false] at ha
    rcases ha with rfl | rfl
    · exact hs0
    · exact hs1)))
  refine run_loop (fun i : Nat => ⟨9, [17, 18, 19, 35, 36], [.any, .ptr 1 (ofL [vecs L]) 0, .bool false, .ptr 1 (ofL [I L.length]) 0, .any, .any, .fn 64 [.ptr 1 (ofL [vecs L]) 0, .ptr 1 (ofL [I L.length]) 0], .any, .any], [(35, I L.length), (36, I i)], []⟩) (fun i => i ≤ L.length ∧ ∀ j, j < i → goodAt L j) (fun i => L.length - i) 0 ⟨by omega, by omega⟩
    (sub_cut (m := 0) (Nat.zero_le _) rfl (by simp [vecs_def, subL, ints, sl1, I]) (by simp [vecs_def, subT, look, I]) rfl (by simp [b0, b1, b3, wBel]) (by simp [b2, wBel]) (by simp)) ?_
  rintro i ⟨hi, hgood⟩ next
  have w1 := wj i (by omega)
  have w2 : IntKind.i64.wrap ((i : Int) + 2) = ((i + 2 : Nat) : Int) := by rw [IntKind.wrap_i64]; omega
  by_cases hi2 : i < L.length
  rotate_left
  · obtain rfl : i = L.length := by omega
    refine vc_soundN 1000 ?_
    simp only [vecs_def, Int.lt_irrefl, Nat.lt_irrefl, ↓wPre, wPost, wFast, wCore, beq_self_eq_true, ite_true, ite_false, false_implies, true_implies, implies_true, eq_self, ne_eq, ↓reduceIte, reduceIte, Nat.reducePow, Nat.reduceLT, Nat.reduceLeDiff, Nat.reduceEqDiff, Nat.reduceAdd, Nat.reduceMul, Nat.reduceSub, Nat.reduceBEq, Nat.reduceDiv, Nat.reduceMod, reduceCtorEq, sl1, wFacts, zA, qA, qC, vA, vC, wSeq, nb_tf, nb_ft, nb_tt, nb_ff]
    have ca := area_fn L 1000 h (by omega) (by omega)
    have cs := rsign_fn (areaF L)
    refine call_fn ca rfl ?_
    simp only [↓wPre, wPost, wFast, wCore, beq_self_eq_true, ite_true, ite_false, false_implies, true_implies, implies_true, eq_self, ne_eq, ↓reduceIte, reduceIte, Nat.reducePow, Nat.reduceLT, Nat.reduceLeDiff, Nat.reduceEqDiff, Nat.reduceAdd, Nat.reduceMul, Nat.reduceSub, Nat.reduceBEq, Nat.reduceDiv, Nat.reduceMod, reduceCtorEq, sl1, wFacts, zA, qA, qC, vA, vC, wSeq, nb_tf, nb_ft, nb_tt, nb_ff]
    refine call_fn cs rfl ?_
    simp only [↓wPre, wPost, wFast, wCore, beq_self_eq_true, ite_true, ite_false, false_implies, true_implies, implies_true, eq_self, ne_eq, ↓reduceIte, reduceIte, Nat.reducePow, Nat.reduceLT, Nat.reduceLeDiff, Nat.reduceEqDiff, Nat.reduceAdd, Nat.reduceMul, Nat.reduceSub, Nat.reduceBEq, Nat.reduceDiv, Nat.reduceMod, reduceCtorEq, sl1, wFacts, zA, qA, qC, vA, vC, wSeq, nb_tf, nb_ft, nb_tt, nb_ff]
    exact fin rfl (by rw [hV, decide_eq_decide]; unfold polyOk; exact ⟨fun h => ⟨by omega, hgood, h⟩, fun h => h.2.2⟩)
  have f3 : ((i : Int) < L.length) = True := eq_true (by omega)
  have f4 : (i < L.length) = True := eq_true hi2
  refine vc_soundN 1000 ?_
  simp only [w1, w2, f3, f4, Int.toNat_natCast, ↓wPre, wPost, wFast, wCore, beq_self_eq_true, ite_true, ite_false, false_implies, true_implies, implies_true, eq_self, ne_eq, ↓reduceIte, reduceIte, Nat.reducePow, Nat.reduceLT, Nat.reduceLeDiff, Nat.reduceEqDiff, Nat.reduceAdd, Nat.reduceMul, Nat.reduceSub, Nat.reduceBEq, Nat.reduceDiv, Nat.reduceMod, reduceCtorEq, sl1, wFacts, zA, qA, qC, vA, vC, wSeq, nb_tf, nb_ft, nb_tt, nb_ff]
  refine call_fn (cat i (by omega)) rfl ?_
  simp only [w1, w2, ↓wPre, wPost, wFast, wCore, beq_self_eq_true, ite_true, ite_false, false_implies, true_implies, implies_true, eq_self, ne_eq, ↓reduceIte, reduceIte, Nat.reducePow, Nat.reduceLT, Nat.reduceLeDiff, Nat.reduceEqDiff, Nat.reduceAdd, Nat.reduceMul, Nat.reduceSub, Nat.reduceBEq, Nat.reduceDiv, Nat.reduceMod, reduceCtorEq, sl1, wFacts, zA, qA, qC, vA, vC, wSeq, nb_tf, nb_ft, nb_tt, nb_ff]
  refine call_fn (cat (i + 1) (by omega)) rfl ?_
  simp only [w1, w2, ↓wPre, wPost, wFast, wCore, beq_self_eq_true, ite_true, ite_false, false_implies, true_implies, implies_true, eq_self, ne_eq, ↓reduceIte, reduceIte, Nat.reducePow, Nat.reduceLT, Nat.reduceLeDiff, Nat.reduceEqDiff, Nat.reduceAdd, Nat.reduceMul, Nat.reduceSub, Nat.reduceBEq, Nat.reduceDiv, Nat.reduceMod, reduceCtorEq, sl1, wFacts, zA, qA, qC, vA, vC, wSeq, nb_tf, nb_ft, nb_tt, nb_ff]
  refine call_fn (cat (i + 2) (by omega)) rfl ?_
  simp only [w1, w2, ↓wPre, wPost, wFast, wCore, beq_self_eq_true, ite_true, ite_false, false_implies, true_implies, implies_true, eq_self, ne_eq, ↓reduceIte, reduceIte, Nat.reducePow, Nat.reduceLT, Nat.reduceLeDiff, Nat.reduceEqDiff, Nat.reduceAdd, Nat.reduceMul, Nat.reduceSub, Nat.reduceBEq, Nat.reduceDiv, Nat.reduceMod, reduceCtorEq, sl1, wFacts, zA, qA, qC, vA, vC, wSeq, nb_tf, nb_ft, nb_tt, nb_ff]
  refine call_fn (pside_fn _ _ _ (sm _) (sm _) (sm _)) rfl ?_
  by_cases hs : side (atF L i) (atF L (i + 1)) (atF L (i + 2)) = 0
  · have f5 : (side (atF L i) (atF L (i + 1)) (atF L (i + 2)) = 0) = True := eq_true hs
    simp only [f5, ↓wPre, wPost, wFast, wCore, beq_self_eq_true, ite_true, ite_false, false_implies, true_implies, implies_true, eq_self, ne_eq, ↓reduceIte, reduceIte, Nat.reducePow, Nat.reduceLT, Nat.reduceLeDiff, Nat.reduceEqDiff, Nat.reduceAdd, Nat.reduceMul, Nat.reduceSub, Nat.reduceBEq, Nat.reduceDiv, Nat.reduceMod, reduceCtorEq, sl1, wFacts, zA, qA, qC, vA, vC, wSeq, nb_tf, nb_ft, nb_tt, nb_ff]
    exact fin rfl (by rw [hV, decide_eq_false]; exact fun hp => (hp.2.1 i hi2).1 hs)
  have f5 : (side (atF L i) (atF L (i + 1)) (atF L (i + 2)) = 0) = False := eq_false hs
  simp only [f5, w1, w2, ↓wPre, wPost, wFast, wCore, beq_self_eq_true, ite_true, ite_false, false_implies, true_implies, implies_true, eq_self, ne_eq, ↓reduceIte, reduceIte, Nat.reducePow, Nat.reduceLT, Nat.reduceLeDiff, Nat.reduceEqDiff, Nat.reduceAdd, Nat.reduceMul, Nat.reduceSub, Nat.reduceBEq, Nat.reduceDiv, Nat.reduceMod, reduceCtorEq, sl1, wFacts, zA, qA, qC, vA, vC, wSeq, nb_tf, nb_ft, nb_tt, nb_ff]
  refine run_loop (fun k : Nat => ⟨9, [17, 18, 19, 35, 36], [.any, .ptr 1 (ofL [vecs L]) 0, .bool false, .ptr 1 (ofL [I L.length]) 0, .any, .any, .fn 64 [.ptr 1 (ofL [vecs L]) 0, .ptr 1 (ofL [I L.length]) 0], I i, I k], [(35, I L.length), (36, I i)], []⟩) (fun k => i + 2 ≤ k ∧ k ≤ L.length + 2 ∧ ∀ j, i + 2 ≤ j → j < k → j < L.length → ¬ badPair L i j) (fun k => L.length + 2 - k) (i + 2) ⟨by omega, by omega, by omega⟩
    (sub_mk rfl (by simp [subL, I]) (by simp [subT, look, I]) rfl) ?_
  rintro k ⟨hk1, hk2, hpair⟩ nextk
  have u1 := wj k (by omega)
  by_cases hk3 : k < L.length
  rotate_left
  · have g3 : ((k : Int) < L.length) = False := eq_false (by omega)
    have g4 : (k < L.length) = False := eq_false hk3
    refine vc_soundN 1000 ?_
    simp only [g3, g4, w1, ↓wPre, wPost, wFast, wCore, beq_self_eq_true, ite_true, ite_false, false_implies, true_implies, implies_true, eq_self, ne_eq, ↓reduceIte, reduceIte, Nat.reducePow, Nat.reduceLT, Nat.reduceLeDiff, Nat.reduceEqDiff, Nat.reduceAdd, Nat.reduceMul, Nat.reduceSub, Nat.reduceBEq, Nat.reduceDiv, Nat.reduceMod, reduceCtorEq, sl1, wFacts, zA, qA, qC, vA, vC, wSeq, nb_tf, nb_ft, nb_tt, nb_ff]
    refine next (i + 1) _ ⟨by omega, fun j hj => ?_⟩ (by omega) (sub_mk rfl (by simp [subL, I]) (by simp [subT, look, I]) rfl)
    by_cases hji : j < i
    · exact hgood j hji
    · obtain rfl : j = i := by omega
      exact ⟨hs, fun q hq1 hq2 => hpair q hq1 (by omega) hq2⟩
  have g3 : ((k : Int) < L.length) = True := eq_true (by omega)
  have g4 : (k < L.length) = True := eq_true hk3
  have hm : ((k + 1 : Nat) : Int).tmod L.length = (((k + 1) % L.length : Nat) : Int) := rfl
  have f6 : ((L.length : Int) = 0) = False := eq_false (by omega)
  have f6' : (L.length = 0) = False := eq_false hn0
  by_cases hne : (k + 1) % L.length = i
  · have g5 : ((k + 1) % L.length = i) = True := eq_true hne
    have g6 : ((((k + 1) % L.length : Nat) : Int) = (i : Int)) = True := eq_true (by omega)
    refine vc_soundN 1000 ?_
    simp only [g3, g4, g5, g6, w1, u1, hm, f6, f6', ↓wPre, wPost, wFast, wCore, beq_self_eq_true, ite_true, ite_false, false_implies, true_implies, implies_true, eq_self, ne_eq, ↓reduceIte, reduceIte, Nat.reducePow, Nat.reduceLT, Nat.reduceLeDiff, Nat.reduceEqDiff, Nat.reduceAdd, Nat.reduceMul, Nat.reduceSub, Nat.reduceBEq, Nat.reduceDiv, Nat.reduceMod, reduceCtorEq, sl1, wFacts, zA, qA, qC, vA, vC, wSeq, nb_tf, nb_ft, nb_tt, nb_ff]
    exact nextk (k + 1) _ ⟨by omega, by omega, fun j h1 h2 h3 => by
      by_cases hjk : j < k
      · exact hpair j h1 hjk h3
      · obtain rfl : j = k := by omega
        exact fun hb => hb.1 hne⟩ (by omega) (sub_mk rfl (by simp [subL, I]) (by simp [subT, look, I]) rfl)
  have g5 : ((k + 1) % L.length = i) = False := eq_false hne
  have g6 : ((((k + 1) % L.length : Nat) : Int) = (i : Int)) = False := eq_false (by omega)
  refine vc_soundN 1000 ?_
  simp only [g3, g4, g5, g6, w1, u1, hm, f6, f6', ↓wPre, wPost, wFast, wCore, beq_self_eq_true, ite_true, ite_false, false_implies, true_implies, implies_true, eq_self, ne_eq, ↓reduceIte, reduceIte, Nat.reducePow, Nat.reduceLT, Nat.reduceLeDiff, Nat.reduceEqDiff, Nat.reduceAdd, Nat.reduceMul, Nat.reduceSub, Nat.reduceBEq, Nat.reduceDiv, Nat.reduceMod, reduceCtorEq, sl1, wFacts, zA, qA, qC, vA, vC, wSeq, nb_tf, nb_ft, nb_tt, nb_ff]
  refine call_fn (cat i (by omega)) rfl ?_
  simp only [g5, g6, w1, u1, ↓wPre, wPost, wFast, wCore, beq_self_eq_true, ite_true, ite_false, false_implies, true_implies, implies_true, eq_self, ne_eq, ↓reduceIte, reduceIte, Nat.reducePow, Nat.reduceLT, Nat.reduceLeDiff, Nat.reduceEqDiff, Nat.reduceAdd, Nat.reduceMul, Nat.reduceSub, Nat.reduceBEq, Nat.reduceDiv, Nat.reduceMod, reduceCtorEq, sl1, wFacts, zA, qA, qC, vA, vC, wSeq, nb_tf, nb_ft, nb_tt, nb_ff]
  refine call_fn (cat (i + 1) (by omega)) rfl ?_
  simp only [g5, g6, w1, u1, ↓wPre, wPost, wFast, wCore, beq_self_eq_true, ite_true, ite_false, false_implies, true_implies, implies_true, eq_self, ne_eq, ↓reduceIte, reduceIte, Nat.reducePow, Nat.reduceLT, Nat.reduceLeDiff, Nat.reduceEqDiff, Nat.reduceAdd, Nat.reduceMul, Nat.reduceSub, Nat.reduceBEq, Nat.reduceDiv, Nat.reduceMod, reduceCtorEq, sl1, wFacts, zA, qA, qC, vA, vC, wSeq, nb_tf, nb_ft, nb_tt, nb_ff]
  refine call_fn (cat k (by omega)) rfl ?_
  simp only [g5, g6, w1, u1, ↓wPre, wPost, wFast, wCore, beq_self_eq_true, ite_true, ite_false, false_implies, true_implies, implies_true, eq_self, ne_eq, ↓reduceIte, reduceIte, Nat.reducePow, Nat.reduceLT, Nat.reduceLeDiff, Nat.reduceEqDiff, Nat.reduceAdd, Nat.reduceMul, Nat.reduceSub, Nat.reduceBEq, Nat.reduceDiv, Nat.reduceMod, reduceCtorEq, sl1, wFacts, zA, qA, qC, vA, vC, wSeq, nb_tf, nb_ft, nb_tt, nb_ff]
  refine call_fn (cat (k + 1) (by omega)) rfl ?_
  simp only [g5, g6, w1, u1, ↓wPre, wPost, wFast, wCore, beq_self_eq_true, ite_true, ite_false, false_implies, true_implies, implies_true, eq_self, ne_eq, ↓reduceIte, reduceIte, Nat.reducePow, Nat.reduceLT, Nat.reduceLeDiff, Nat.reduceEqDiff, Nat.reduceAdd, Nat.reduceMul, Nat.reduceSub, Nat.reduceBEq, Nat.reduceDiv, Nat.reduceMod, reduceCtorEq, sl1, wFacts, zA, qA, qC, vA, vC, wSeq, nb_tf, nb_ft, nb_tt, nb_ff]
  refine call_fn (meets_fn _ _ _ _ (sm _) (sm _) (sm _) (sm _)) rfl ?_
  by_cases hmt : meetsF (atF L i) (atF L (i + 1)) (atF L k) (atF L (k + 1)) = true
  · rw [hmt]
    simp only [g5, g6, ↓wPre, wPost, wFast, wCore, beq_self_eq_true, ite_true, ite_false, false_implies, true_implies, implies_true, eq_self, ne_eq, ↓reduceIte, reduceIte, Nat.reducePow, Nat.reduceLT, Nat.reduceLeDiff, Nat.reduceEqDiff, Nat.reduceAdd, Nat.reduceMul, Nat.reduceSub, Nat.reduceBEq, Nat.reduceDiv, Nat.reduceMod, reduceCtorEq, sl1, wFacts, zA, qA, qC, vA, vC, wSeq, nb_tf, nb_ft, nb_tt, nb_ff]
    exact fin rfl (by rw [hV, decide_eq_false]; exact fun hp => (hp.2.1 i hi2).2 k hk1 hk3 ⟨hne, hmt⟩)
  · have hmf := Bool.not_eq_true _ ▸ hmt
    rw [hmf]
    simp only [g5, g6, u1, ↓wPre, wPost, wFast, wCore, beq_self_eq_true, ite_true, ite_false, false_implies, true_implies, implies_true, eq_self, ne_eq, ↓reduceIte, reduceIte, Nat.reducePow, Nat.reduceLT, Nat.reduceLeDiff, Nat.reduceEqDiff, Nat.reduceAdd, Nat.reduceMul, Nat.reduceSub, Nat.reduceBEq, Nat.reduceDiv, Nat.reduceMod, reduceCtorEq, sl1, wFacts, zA, qA, qC, vA, vC, wSeq, nb_tf, nb_ft, nb_tt, nb_ff]
    exact nextk (k + 1) _ ⟨by omega, by omega, fun j h1 h2 h3 => by
      by_cases hjk : j < k
      · exact hpair j h1 hjk h3
      · obtain rfl : j = k := by omega
        exact fun hb => hmt hb.2⟩ (by omega) (sub_mk rfl (by simp [subL, I]) (by simp [subT, look, I]) rfl)
end
end Go.Ab.N

namespace Go.Ab.N
open Go Go.RowKit Go.Proofs
noncomputable section
set_option maxRecDepth 10000
set_option maxHeartbeats 2000000
set_option linter.unusedSimpArgs false
set_option linter.unusedVariables false
open Classical

/-! ### Points, copies and comparisons of lists -/
def ptC (p : Int × Int) : List AV := [I p.1, I p.2]
def pts (l : List (Int × Int)) : AV := sls ptC 2 (0, 0) l
theorem settled_pts (l : List (Int × Int)) : Settled (pts l) := settled_sls fun a x hx => by
  have : ∀ x ∈ ptC a, Settled x := by simp [ptC, settled_I]
  exact this x hx
theorem pts_def (l : List (Int × Int)) : pts l = .sl l.length (l.length * 2) (slFs ptC 2 (0, 0) l) false := nrfl rfl
theorem bools_def (l : List Bool) : bools l = .sl l.length l.length (slF AV.bool false l) false := nrfl rfl
theorem ints_def (l : List Int) : ints l = .sl l.length l.length (slF I 0 l) false := nrfl rfl
theorem slFs_one {α : Type} (e : α → List AV) (s : Nat) (d : α) (l : List α) (j : Nat) (hs : 0 < s) (he : ∀ a, (e a).length = s ∧ ∀ x ∈ e a, x.one = true) : (slFs e s d l j).one = true := by
  have h := he (l.getD (j / s) d)
  have hj : j % s < (e (l.getD (j / s) d)).length := by rw [h.1]; exact Nat.mod_lt _ hs
  unfold slFs
  rw [List.getD_eq_getElem?_getD, List.getElem?_eq_getElem hj]
  exact h.2 _ (List.getElem_mem hj)
theorem settled_ptC (p : Int × Int) : ∀ x ∈ ptC p, Settled x := by simp [ptC, settled_I]
theorem ptF (l : List (Int × Int)) (i : Nat) : slFs ptC 2 (0, 0) l (i * 2) = I (l.getD i (0, 0)).1 ∧ slFs ptC 2 (0, 0) l (i * 2 + 1) = I (l.getD i (0, 0)).2 := by
  refine ⟨?_, ?_⟩
  · rw [slFs_at0 _ _ _ _ _ (by omega)]; rfl
  · rw [slFs_at _ _ _ _ _ _ (by omega)]; rfl
theorem appF_0 (f : Nat → AV) (m : Nat) (g : Nat → AV) (j : Nat) : appF 0 f m g j = if j < m then g j else f j := by simp [appF]
theorem clone_ret {P : Program} {fn : Func} {str hcs : List Nat} {s : AS} {t n m es ver id : Nat} {f g : Nat → AV} (hr : fn.results = #[.tmp t]) (hs : s.get t = .osl id ver es 0 n) (ho : s.h[id]? = some (.row ver m (appF 0 f m g))) (hn : n = 0 → m = 0) (hg : ∀ j, j < m → Settled (g j)) :
    RetOk (envP P fn str hcs (.sl n m g false)) s := by
  refine ret1 hr ?_
  rw [hs]
  refine sees_osl (.inl ho) (by omega) hn fun j hj => ?_
  rw [Nat.zero_add, appF_0, if_pos hj]
  exact (hg j hj).sees _
theorem clone_ret0 {P : Program} {fn : Func} {str hcs : List Nat} {s : AS} {t : Nat} {f g : Nat → AV} {b : Bool} (hr : fn.results = #[.tmp t]) (hs : s.get t = .sl 0 0 f b) : RetOk (envP P fn str hcs (.sl 0 0 g false)) s := by
  refine ret1 hr ?_
  rw [hs]
  exact sees_empty
theorem clonei_fn (l : List Int) (hl : l.length < 1000000) : Fn Try.prog 20 [ints l] (ints l) := by
  refine Fn.intro (fn := Try.f20) Try.call20 Try.func20 rfl mixed 3 [] [] [] (by kernel_rfl) (Nat.le_of_ble_eq_true rfl) (by simp [settled_ints]) (vc_soundN 1000 ?_)
  simp only [AS.start, ints_def, ↓wPre, wPost, wFast, wCore, beq_self_eq_true, ite_true, ite_false, false_implies, true_implies, implies_true, eq_self, ne_eq, ↓reduceIte, reduceIte, Nat.reducePow, Nat.reduceLT, Nat.reduceLeDiff, Nat.reduceEqDiff, Nat.reduceAdd, Nat.reduceMul, Nat.reduceSub, Nat.reduceBEq, Nat.reduceDiv, Nat.reduceMod, reduceCtorEq, sl1, wFacts, zA, qA, qC, vA, vC, wSeq, nb_tf, nb_ft, nb_tt, nb_ff]
  have hb : l.length * 8 ≤ 140737488355328 ∧ l.length ≤ 9223372036854775807 := ⟨by omega, by omega⟩
  have hc : RetT (envP Try.prog Try.f20 [] [] (ints l)) .mk ⟨3, [], [ints l, .any, .osl 0 0 1 0 l.length], [(7, .osl 0 0 1 0 l.length), (6, ints l), (5, .sl 0 0 (ofL []) true)], [.row 0 (l.length) (appF 0 (ofL []) (l.length) (slF I 0 l))]⟩ := by
    rw [ints_def]
    exact clone_ret rfl rfl rfl (fun h => by rw [h]) fun j hj => settled_I _
  by_cases h0 : l.length = 0
  · rw [if_pos h0, cAt_abool]
    refine ⟨?_, hb, hc⟩
    have e : l = [] := List.eq_nil_of_length_eq_zero h0
    subst e
    exact clone_ret0 rfl rfl
  · rw [if_neg h0, cAt_bool, guardP_false]
    exact ⟨hb, hc⟩
theorem cloneb_fn (l : List Bool) (hl : l.length < 1000000) : Fn Try.prog 19 [bools l] (bools l) := by
  refine Fn.intro (fn := Try.f19) Try.call19 Try.func19 rfl mixed 3 [] [] [] (by kernel_rfl) (Nat.le_of_ble_eq_true rfl) (by simp [settled_bools]) (vc_soundN 1000 ?_)
  simp only [AS.start, bools_def, ↓wPre, wPost, wFast, wCore, beq_self_eq_true, ite_true, ite_false, false_implies, true_implies, implies_true, eq_self, ne_eq, ↓reduceIte, reduceIte, Nat.reducePow, Nat.reduceLT, Nat.reduceLeDiff, Nat.reduceEqDiff, Nat.reduceAdd, Nat.reduceMul, Nat.reduceSub, Nat.reduceBEq, Nat.reduceDiv, Nat.reduceMod, reduceCtorEq, sl1, wFacts, zA, qA, qC, vA, vC, wSeq, nb_tf, nb_ft, nb_tt, nb_ff]
  have hb : l.length ≤ 140737488355328 ∧ l.length ≤ 9223372036854775807 := ⟨by omega, by omega⟩
  have hc : RetT (envP Try.prog Try.f19 [] [] (bools l)) .mk ⟨3, [], [bools l, .any, .osl 0 0 1 0 l.length], [(7, .osl 0 0 1 0 l.length), (6, bools l), (5, .sl 0 0 (ofL []) true)], [.row 0 (l.length) (appF 0 (ofL []) (l.length) (slF AV.bool false l))]⟩ := by
    rw [bools_def]
    exact clone_ret rfl rfl rfl (fun h => by rw [h]) fun j hj => settled_bool _
  by_cases h0 : l.length = 0
  · rw [if_pos h0, cAt_abool]
    refine ⟨?_, hb, hc⟩
    have e : l = [] := List.eq_nil_of_length_eq_zero h0
    subst e
    exact clone_ret0 rfl rfl
  · rw [if_neg h0, cAt_bool, guardP_false]
    exact ⟨hb, hc⟩
theorem clonep_fn (l : List (Int × Int)) (hl : l.length < 1000000) : Fn Try.prog 18 [pts l] (pts l) := by
  refine Fn.intro (fn := Try.f18) Try.call18 Try.func18 rfl mixed 3 [] [] [] (by kernel_rfl) (Nat.le_of_ble_eq_true rfl) (by simp [settled_pts]) (vc_soundN 1000 ?_)
  simp only [AS.start, pts_def, ↓wPre, wPost, wFast, wCore, beq_self_eq_true, ite_true, ite_false, false_implies, true_implies, implies_true, eq_self, ne_eq, ↓reduceIte, reduceIte, Nat.reducePow, Nat.reduceLT, Nat.reduceLeDiff, Nat.reduceEqDiff, Nat.reduceAdd, Nat.reduceMul, Nat.reduceSub, Nat.reduceBEq, Nat.reduceDiv, Nat.reduceMod, reduceCtorEq, sl1, wFacts, zA, qA, qC, vA, vC, wSeq, nb_tf, nb_ft, nb_tt, nb_ff]
  have hb : ((∀ (j : Nat), j < l.length * 2 → (slFs ptC 2 (0, 0) l j).one = true) ∧ l.length * 16 ≤ 140737488355328 ∧ l.length ≤ 9223372036854775807) := ⟨fun j _ => slFs_one _ _ _ _ _ (by omega) fun a => ⟨rfl, by simp [ptC, I, AV.one]⟩, by omega, by omega⟩
  have hc : RetT (envP Try.prog Try.f18 [] [] (pts l)) .mk ⟨3, [], [pts l, .any, .osl 0 0 2 0 l.length], [(7, .osl 0 0 2 0 l.length), (6, pts l), (5, .sl 0 0 (ofL []) true)], [.row 0 (l.length * 2) (appF 0 (ofL []) (l.length * 2) (slFs ptC 2 (0, 0) l))]⟩ := by
    rw [pts_def]
    exact clone_ret rfl rfl rfl (fun h => by rw [h]) fun j hj => settled_cells (settled_ptC _) _
  by_cases h0 : l.length = 0
  · rw [if_pos h0, cAt_abool]
    refine ⟨?_, hb, hc⟩
    have e : l = [] := List.eq_nil_of_length_eq_zero h0
    subst e
    exact clone_ret0 rfl rfl
  · rw [if_neg h0, cAt_bool, guardP_false]
    exact ⟨hb, hc⟩
theorem eqBools_fn (a b : List Bool) (la : a.length < 4611686018427387904) (lb : b.length < 4611686018427387904) : Fn Try.prog 47 [bools a, bools b] (.bool (decide (a = b))) := by
  obtain ⟨V, hV⟩ : ∃ V, V = decide (a = b) := ⟨_, rfl⟩
  rw [← hV]
  refine Fn.intro (fn := Try.f47) Try.call47 Try.func47 rfl mixed 6 [11, 12, 13] [] [] (by kernel_rfl) (Nat.le_of_ble_eq_true rfl) (by simp [settled_bools]) (vc_soundN 1000 ?_)
  by_cases hl : a.length = b.length
  · have f1 : ((a.length : Int) = b.length) = True := eq_true (by omega)
    have f1' : (a.length = b.length) = True := eq_true hl
    simp only [AS.start, bools_def, f1, f1', ↓wPre, wPost, wFast, wCore, beq_self_eq_true, ite_true, ite_false, false_implies, true_implies, implies_true, eq_self, ne_eq, ↓reduceIte, reduceIte, Nat.reducePow, Nat.reduceLT, Nat.reduceLeDiff, Nat.reduceEqDiff, Nat.reduceAdd, Nat.reduceMul, Nat.reduceSub, Nat.reduceBEq, Nat.reduceDiv, Nat.reduceMod, reduceCtorEq, sl1, wFacts, zA, qA, qC, vA, vC, wSeq, nb_tf, nb_ft, nb_tt, nb_ff]
    refine run_loop (fun j : Nat => ⟨6, [11, 12, 13], [bools a, bools b, .any, .any, .any, .any], [(11, bools a), (12, I a.length), (13, I j)], []⟩) (fun j => j ≤ a.length ∧ ∀ i, i < j → a.getD i false = b.getD i false) (fun j => a.length - j) 0 ⟨by omega, by omega⟩
      (sub_mk rfl (by simp [subL, bools, sl1, I, hl]) (by simp [subT, look, bools, sl1, I, hl]) rfl) ?_
    rintro j ⟨hj, hno⟩ next
    have w1 := wj j (by omega)
    by_cases hj2 : j < a.length
    · have f2 : ((j : Int) < a.length) = True := eq_true (by omega)
      have f3 : (j < a.length) = True := eq_true hj2
      have f4 : (j < b.length) = True := eq_true (by omega)
      refine vc_soundN 1000 ?_
      simp only [bools_def, w1, f2, f3, f4, ↓wPre, wPost, wFast, wCore, beq_self_eq_true, ite_true, ite_false, false_implies, true_implies, implies_true, eq_self, ne_eq, ↓reduceIte, reduceIte, Nat.reducePow, Nat.reduceLT, Nat.reduceLeDiff, Nat.reduceEqDiff, Nat.reduceAdd, Nat.reduceMul, Nat.reduceSub, Nat.reduceBEq, Nat.reduceDiv, Nat.reduceMod, reduceCtorEq, sl1, wFacts, zA, qA, qC, vA, vC, wSeq, nb_tf, nb_ft, nb_tt, nb_ff]
      refine ⟨fun h => ret1E (v := .bool false) rfl rfl (settled_bool _) ?_, fun h => next (j + 1) _ ⟨by omega, fun i hi => ?_⟩ (by omega) (sub_mk rfl (by simp [subL, bools, sl1, I]) (by simp [subT, look, bools, sl1, I]) rfl)⟩
      · rw [hV, decide_eq_false fun e => by rw [e] at h; simp at h]
      · by_cases e : i = j
        · rw [e]; simpa using h
        · exact hno i (by omega)
    · have f2 : ((j : Int) < a.length) = False := eq_false (by omega)
      have f3 : (j < a.length) = False := eq_false hj2
      refine vc_soundN 1000 ?_
      simp only [bools_def, w1, f2, f3, ↓wPre, wPost, wFast, wCore, beq_self_eq_true, ite_true, ite_false, false_implies, true_implies, implies_true, eq_self, ne_eq, ↓reduceIte, reduceIte, Nat.reducePow, Nat.reduceLT, Nat.reduceLeDiff, Nat.reduceEqDiff, Nat.reduceAdd, Nat.reduceMul, Nat.reduceSub, Nat.reduceBEq, Nat.reduceDiv, Nat.reduceMod, reduceCtorEq, sl1, wFacts, zA, qA, qC, vA, vC, wSeq, nb_tf, nb_ft, nb_tt, nb_ff]
      refine ret1E (v := .bool true) rfl rfl (settled_bool _) ?_
      rw [hV, decide_eq_true]
      refine List.ext_getElem hl fun i h1 h2 => ?_
      have := hno i (by omega)
      rw [List.getD_eq_getElem?_getD, List.getElem?_eq_getElem h1, List.getD_eq_getElem?_getD, List.getElem?_eq_getElem h2] at this
      exact this
  · have f1 : ((a.length : Int) = b.length) = False := eq_false (by omega)
    have f1' : (a.length = b.length) = False := eq_false hl
    simp only [AS.start, bools_def, f1, f1', ↓wPre, wPost, wFast, wCore, beq_self_eq_true, ite_true, ite_false, false_implies, true_implies, implies_true, eq_self, ne_eq, ↓reduceIte, reduceIte, Nat.reducePow, Nat.reduceLT, Nat.reduceLeDiff, Nat.reduceEqDiff, Nat.reduceAdd, Nat.reduceMul, Nat.reduceSub, Nat.reduceBEq, Nat.reduceDiv, Nat.reduceMod, reduceCtorEq, sl1, wFacts, zA, qA, qC, vA, vC, wSeq, nb_tf, nb_ft, nb_tt, nb_ff]
    refine ret1E (v := .bool false) rfl rfl (settled_bool _) ?_
    rw [hV, decide_eq_false fun e => hl (by rw [e])]

theorem eqPts_fn (a b : List (Int × Int)) (la : a.length < 4611686018427387904) (lb : b.length < 4611686018427387904) : Fn Try.prog 46 [pts a, pts b] (.bool (decide (a = b))) := by
  obtain ⟨V, hV⟩ : ∃ V, V = decide (a = b) := ⟨_, rfl⟩
  rw [← hV]
  refine Fn.intro (fn := Try.f46) Try.call46 Try.func46 rfl mixed 6 [11, 12, 13] [] [] (by kernel_rfl) (Nat.le_of_ble_eq_true rfl) (by simp [settled_pts]) (vc_soundN 1000 ?_)
  by_cases hl : a.length = b.length
  · have f1 : ((a.length : Int) = b.length) = True := eq_true (by omega)
    have f1' : (a.length = b.length) = True := eq_true hl
    simp only [AS.start, pts_def, f1, f1', ↓wPre, wPost, wFast, wCore, beq_self_eq_true, ite_true, ite_false, false_implies, true_implies, implies_true, eq_self, ne_eq, ↓reduceIte, reduceIte, Nat.reducePow, Nat.reduceLT, Nat.reduceLeDiff, Nat.reduceEqDiff, Nat.reduceAdd, Nat.reduceMul, Nat.reduceSub, Nat.reduceBEq, Nat.reduceDiv, Nat.reduceMod, reduceCtorEq, sl1, wFacts, zA, qA, qC, vA, vC, wSeq, nb_tf, nb_ft, nb_tt, nb_ff]
    refine run_loop (fun j : Nat => ⟨6, [11, 12, 13], [pts a, pts b, .any, .any, .any, .any], [(11, pts a), (12, I a.length), (13, I j)], []⟩) (fun j => j ≤ a.length ∧ ∀ i, i < j → a.getD i (0, 0) = b.getD i (0, 0)) (fun j => a.length - j) 0 ⟨by omega, by omega⟩
      (sub_mk rfl (by simp [subL, pts_def, sl1, I, hl]) (by simp [subT, look, pts_def, sl1, I, hl]) rfl) ?_
    rintro j ⟨hj, hno⟩ next
    have w1 := wj j (by omega)
    by_cases hj2 : j < a.length
    · have f2 : ((j : Int) < a.length) = True := eq_true (by omega)
      have f3 : (j < a.length) = True := eq_true hj2
      have f4 : (j < b.length) = True := eq_true (by omega)
      have f5 : (j * 2 + 2 ≤ a.length * 2) = True := eq_true (by omega)
      have f6 : (j * 2 + 2 ≤ b.length * 2) = True := eq_true (by omega)
      have v1 := ptF a j
      have v2 := ptF b j
      by_cases hx : (a.getD j (0, 0)).1 = (b.getD j (0, 0)).1
      rotate_left
      · have g1 : ((a.getD j (0, 0)).1 = (b.getD j (0, 0)).1) = False := eq_false hx
        refine vc_soundN 1000 ?_
        simp only [pts_def, w1, f2, f3, f4, f5, f6, v1, v2, g1, ↓wPre, wPost, wFast, wCore, beq_self_eq_true, ite_true, ite_false, false_implies, true_implies, implies_true, eq_self, ne_eq, ↓reduceIte, reduceIte, Nat.reducePow, Nat.reduceLT, Nat.reduceLeDiff, Nat.reduceEqDiff, Nat.reduceAdd, Nat.reduceMul, Nat.reduceSub, Nat.reduceBEq, Nat.reduceDiv, Nat.reduceMod, reduceCtorEq, sl1, wFacts, zA, qA, qC, vA, vC, wSeq, nb_tf, nb_ft, nb_tt, nb_ff]
        refine ret1E (v := .bool false) rfl rfl (settled_bool _) ?_
        rw [hV, decide_eq_false fun e => hx (by rw [e])]
      have g1 : ((a.getD j (0, 0)).1 = (b.getD j (0, 0)).1) = True := eq_true hx
      by_cases hy : (a.getD j (0, 0)).2 = (b.getD j (0, 0)).2
      rotate_left
      · have g2 : ((a.getD j (0, 0)).2 = (b.getD j (0, 0)).2) = False := eq_false hy
        refine vc_soundN 1000 ?_
        simp only [pts_def, w1, f2, f3, f4, f5, f6, v1, v2, g1, g2, ↓wPre, wPost, wFast, wCore, beq_self_eq_true, ite_true, ite_false, false_implies, true_implies, implies_true, eq_self, ne_eq, ↓reduceIte, reduceIte, Nat.reducePow, Nat.reduceLT, Nat.reduceLeDiff, Nat.reduceEqDiff, Nat.reduceAdd, Nat.reduceMul, Nat.reduceSub, Nat.reduceBEq, Nat.reduceDiv, Nat.reduceMod, reduceCtorEq, sl1, wFacts, zA, qA, qC, vA, vC, wSeq, nb_tf, nb_ft, nb_tt, nb_ff]
        refine ret1E (v := .bool false) rfl rfl (settled_bool _) ?_
        rw [hV, decide_eq_false fun e => hy (by rw [e])]
      have g2 : ((a.getD j (0, 0)).2 = (b.getD j (0, 0)).2) = True := eq_true hy
      refine vc_soundN 1000 ?_
      simp only [pts_def, w1, f2, f3, f4, f5, f6, v1, v2, g1, g2, ↓wPre, wPost, wFast, wCore, beq_self_eq_true, ite_true, ite_false, false_implies, true_implies, implies_true, eq_self, ne_eq, ↓reduceIte, reduceIte, Nat.reducePow, Nat.reduceLT, Nat.reduceLeDiff, Nat.reduceEqDiff, Nat.reduceAdd, Nat.reduceMul, Nat.reduceSub, Nat.reduceBEq, Nat.reduceDiv, Nat.reduceMod, reduceCtorEq, sl1, wFacts, zA, qA, qC, vA, vC, wSeq, nb_tf, nb_ft, nb_tt, nb_ff]
      refine next (j + 1) _ ⟨by omega, fun i hi => ?_⟩ (by omega) (sub_mk rfl (by simp [subL, pts_def, sl1, I]) (by simp [subT, look, pts_def, sl1, I]) rfl)
      by_cases e : i = j
      · rw [e]; exact Prod.ext hx hy
      · exact hno i (by omega)
    · have f2 : ((j : Int) < a.length) = False := eq_false (by omega)
      have f3 : (j < a.length) = False := eq_false hj2
      refine vc_soundN 1000 ?_
      simp only [pts_def, w1, f2, f3, ↓wPre, wPost, wFast, wCore, beq_self_eq_true, ite_true, ite_false, false_implies, true_implies, implies_true, eq_self, ne_eq, ↓reduceIte, reduceIte, Nat.reducePow, Nat.reduceLT, Nat.reduceLeDiff, Nat.reduceEqDiff, Nat.reduceAdd, Nat.reduceMul, Nat.reduceSub, Nat.reduceBEq, Nat.reduceDiv, Nat.reduceMod, reduceCtorEq, sl1, wFacts, zA, qA, qC, vA, vC, wSeq, nb_tf, nb_ft, nb_tt, nb_ff]
      refine ret1E (v := .bool true) rfl rfl (settled_bool _) ?_
      rw [hV, decide_eq_true]
      refine List.ext_getElem hl fun i h1 h2 => ?_
      have := hno i (by omega)
      rw [List.getD_eq_getElem?_getD, List.getElem?_eq_getElem h1, List.getD_eq_getElem?_getD, List.getElem?_eq_getElem h2] at this
      exact this
  · have f1 : ((a.length : Int) = b.length) = False := eq_false (by omega)
    have f1' : (a.length = b.length) = False := eq_false hl
    simp only [AS.start, pts_def, f1, f1', ↓wPre, wPost, wFast, wCore, beq_self_eq_true, ite_true, ite_false, false_implies, true_implies, implies_true, eq_self, ne_eq, ↓reduceIte, reduceIte, Nat.reducePow, Nat.reduceLT, Nat.reduceLeDiff, Nat.reduceEqDiff, Nat.reduceAdd, Nat.reduceMul, Nat.reduceSub, Nat.reduceBEq, Nat.reduceDiv, Nat.reduceMod, reduceCtorEq, sl1, wFacts, zA, qA, qC, vA, vC, wSeq, nb_tf, nb_ft, nb_tt, nb_ff]
    refine ret1E (v := .bool false) rfl rfl (settled_bool _) ?_
    rw [hV, decide_eq_false fun e => hl (by rw [e])]

end
end Go.Ab.N

namespace Go.Ab.N
open Go Go.RowKit Go.Proofs
noncomputable section
set_option maxRecDepth 10000
set_option maxHeartbeats 2000000
set_option linter.unusedSimpArgs false
set_option linter.unusedVariables false
open Classical

/-! ### Pieces -/
structure PV where
  id : Int
  home : Int
  rim : List (Int × Int)
  worn : List Bool
  marks : List Int
  tol : RQ
  light : RQ
  heavy : RQ
  strength : RQ
  rough : RQ
def pvC (p : PV) : List AV := [I p.id, I p.home, pts p.rim, bools p.worn, ints p.marks, .bool p.tol.pn, ints p.tol.pd, .bool p.tol.qn, ints p.tol.qd, .bool p.light.pn, ints p.light.pd, .bool p.light.qn, ints p.light.qd,
  .bool p.heavy.pn, ints p.heavy.pd, .bool p.heavy.qn, ints p.heavy.qd, .bool p.strength.pn, ints p.strength.pd, .bool p.strength.qn, ints p.strength.qd, .bool p.rough.pn, ints p.rough.pd, .bool p.rough.qn, ints p.rough.qd]
def pvA (p : PV) : AV := .agg (pvC p)
theorem settled_pvA (p : PV) : Settled (pvA p) := settled_agg (by simp [pvC, settled_I, settled_pts, settled_bools, settled_ints, settled_bool])
/-- The five numbers of a piece. -/
def numC (p : PV) : List AV := [.bool p.tol.pn, ints p.tol.pd, .bool p.tol.qn, ints p.tol.qd, .bool p.light.pn, ints p.light.pd, .bool p.light.qn, ints p.light.qd,
  .bool p.heavy.pn, ints p.heavy.pd, .bool p.heavy.qn, ints p.heavy.qd, .bool p.strength.pn, ints p.strength.pd, .bool p.strength.qn, ints p.strength.qd, .bool p.rough.pn, ints p.rough.pd, .bool p.rough.qn, ints p.rough.qd]
def PV.num (p : PV) : Nat → RQ
  | 0 => p.tol
  | 1 => p.light
  | 2 => p.heavy
  | 3 => p.strength
  | _ => p.rough
theorem numbers_fn (p : PV) : Fn Try.prog 36 [pvA p] (.agg (numC p)) := by
  have sR : Settled (.agg (numC p)) := settled_agg (by simp [numC, settled_ints, settled_bool])
  refine Fn.intro (fn := Try.f36) Try.call36 Try.func36 rfl mixed 3 [] [] [] (by kernel_rfl) (Nat.le_of_ble_eq_true rfl) (by simp [settled_pvA]) (vc_soundN 1000 ?_)
  simp only [AS.start, pvA, pvC, ↓wPre, wPost, wFast, wCore, beq_self_eq_true, ite_true, ite_false, false_implies, true_implies, implies_true, eq_self, ne_eq, ↓reduceIte, reduceIte, Nat.reducePow, Nat.reduceLT, Nat.reduceLeDiff, Nat.reduceEqDiff, Nat.reduceAdd, Nat.reduceMul, Nat.reduceSub, Nat.reduceBEq, Nat.reduceDiv, Nat.reduceMod, reduceCtorEq, sl1, wFacts, zA, qA, qC, vA, vC, pts_def, bools_def, wSeq, nb_tf, nb_ft, nb_tt, nb_ff]
  exact retV rfl ldk72 rfl rfl rfl sR rfl
theorem belO_set {m v n : Nat} {L : List AV} (h : ∀ x ∈ L, Settled x) : belO m (.row v n (ofL L)) := fun j _ => bel_of_settled (settled_cells h j)
theorem settled_pvC (p : PV) : ∀ x ∈ pvC p, Settled x := by simp [pvC, settled_I, settled_pts, settled_bools, settled_ints, settled_bool]
def wb (n lo hi : Int) : Bool := decide (lo ≤ n) && decide (n ≤ hi)
theorem within_fn (n lo hi : Int) : Fn Try.prog 63 [I n, I lo, I hi] (.bool (wb n lo hi)) := by
  unfold wb
  refine Fn.intro (fn := Try.f63) Try.call63 Try.func63 rfl mixed 6 [] [] [] (by kernel_rfl) (Nat.le_of_ble_eq_true rfl) (by simp [settled_ints, settled_I, settled_fn0, settled_intss, settled_bool, settled_nil, settled_zA, settled_qA, settled_vA, settled_zR, settled_ofA, settled_int, settled_pts, settled_bools]) (vc_soundN 1000 ?_); simp (config := { maxSteps := 2000000 }) only [AS.start, ↓wPre, wPost, wFast, wCore, beq_self_eq_true, ite_true, ite_false, false_implies, true_implies, implies_true, eq_self, ne_eq, ↓reduceIte, reduceIte, Nat.reducePow, Nat.reduceLT, Nat.reduceLeDiff, Nat.reduceEqDiff, Nat.reduceAdd, Nat.reduceMul, Nat.reduceSub, Nat.reduceBEq, Nat.reduceDiv, Nat.reduceMod, reduceCtorEq, sl1, wFacts, zA, qA, qC, vA, vC, pts_def, bools_def, wSeq, nb_tf, nb_ft, nb_tt, nb_ff]
  refine ⟨fun h => ret1E rfl rfl (settled_bool _) (by rw [decide_eq_true h]; rfl), fun h => ret1E rfl rfl (settled_bool _) (by rw [decide_eq_false h]; rfl)⟩
def ptOk (c : Int × Int) : Bool := wb c.1 (-65536) 65536 && wb c.2 (-65536) 65536
def markOk (m : Int) : Bool := wb m 0 1024
/-- A piece with all integers in range. -/
def rangeOk (p : PV) : Prop := (∀ i, i < p.rim.length → ptOk (p.rim.getD i (0, 0)) = true) ∧ (∀ i, i < p.marks.length → markOk (p.marks.getD i 0) = true) ∧ wb p.id 0 999 = true ∧ wb p.home 0 4 = true
theorem inRange_fn (p : PV) (hr : p.rim.length < 1000000) (hm : p.marks.length < 1000000) : Fn Try.prog 35 [pvA p] (.bool (decide (rangeOk p))) := by
  obtain ⟨V, hV⟩ : ∃ V, V = decide (rangeOk p) := ⟨_, rfl⟩
  have bp : Bel 1 (pts p.rim) = True := eq_true (bel_of_settled (settled_pts _))
  have bm : Bel 1 (ints p.marks) = True := eq_true (bel_of_settled (settled_ints _))
  have bo : belO 1 (.row 0 25 (ofL (pvC p))) = True := eq_true (belO_set (settled_pvC p))
  have fin : ∀ {s : AS} {v : Bool}, s.get 2 = .bool v → v = V → RetOk (envP Try.prog Try.f35 [] [] (.bool V)) s := fun h e => ret1E rfl h (settled_bool _) (by rw [e])
  rw [← hV]
  refine Fn.intro (fn := Try.f35) Try.call35 Try.func35 rfl mixed 7 [8, 9, 10, 26, 27, 28] [] [] (by kernel_rfl) (Nat.le_of_ble_eq_true rfl) (by simp [settled_pvA]) (vc_soundN 1000 ?_)
  simp only [AS.start, pvA, pvC, ↓wPre, wPost, wFast, wCore, beq_self_eq_true, ite_true, ite_false, false_implies, true_implies, implies_true, eq_self, ne_eq, ↓reduceIte, reduceIte, Nat.reducePow, Nat.reduceLT, Nat.reduceLeDiff, Nat.reduceEqDiff, Nat.reduceAdd, Nat.reduceMul, Nat.reduceSub, Nat.reduceBEq, Nat.reduceDiv, Nat.reduceMod, reduceCtorEq, sl1, wFacts, zA, qA, qC, vA, vC, pts_def, bools_def, wSeq, nb_tf, nb_ft, nb_tt, nb_ff]
  refine run_loop (fun i : Nat => ⟨7, [8, 9, 10, 26, 27, 28], [.any, .ref 0 0 0, .bool false, .any, .any, .any, .any], [(8, pts p.rim), (9, I p.rim.length), (10, I i)], [.row 0 25 (ofL (pvC p))]⟩) (fun i => i ≤ p.rim.length ∧ ∀ j, j < i → ptOk (p.rim.getD j (0, 0)) = true) (fun i => p.rim.length - i) 0 ⟨by omega, by omega⟩
    (sub_mk rfl (by simp [subL]) (by simp [subT, look, pts_def, I]) (by simp [pvC, pts_def, bools_def, ints_def, I])) ?_
  rintro i ⟨hi, hok⟩ next
  have w1 := wj i (by omega)
  by_cases hi2 : i < p.rim.length
  · have f1 : ((i : Int) < p.rim.length) = True := eq_true (by omega)
    have f2 : (i < p.rim.length) = True := eq_true hi2
    have f3 : (i * 2 + 2 ≤ p.rim.length * 2) = True := eq_true (by omega)
    have v1 := ptF p.rim i
    have c1 := within_fn (p.rim.getD i (0, 0)).1 (-65536) 65536
    have c2 := within_fn (p.rim.getD i (0, 0)).2 (-65536) 65536
    have bad : ptOk (p.rim.getD i (0, 0)) = false → V = false := fun h => by
      rw [hV, decide_eq_false]
      intro hp
      have := hp.1 i hi2
      rw [h] at this; cases this
    refine vc_soundN 1000 ?_
    simp only [pvC, w1, f1, f2, f3, v1, Int.toNat_natCast, ↓wPre, wPost, wFast, wCore, beq_self_eq_true, ite_true, ite_false, false_implies, true_implies, implies_true, eq_self, ne_eq, ↓reduceIte, reduceIte, Nat.reducePow, Nat.reduceLT, Nat.reduceLeDiff, Nat.reduceEqDiff, Nat.reduceAdd, Nat.reduceMul, Nat.reduceSub, Nat.reduceBEq, Nat.reduceDiv, Nat.reduceMod, reduceCtorEq, sl1, wFacts, zA, qA, qC, vA, vC, pts_def, bools_def, wSeq, nb_tf, nb_ft, nb_tt, nb_ff]
    refine call_fn c1 rfl ?_
    by_cases h1 : wb (p.rim.getD i (0, 0)).1 (-65536) 65536 = true
    rotate_left
    · rw [Bool.not_eq_true] at h1
      rw [h1]
      simp only [w1, ↓wPre, wPost, wFast, wCore, beq_self_eq_true, ite_true, ite_false, false_implies, true_implies, implies_true, eq_self, ne_eq, ↓reduceIte, reduceIte, Nat.reducePow, Nat.reduceLT, Nat.reduceLeDiff, Nat.reduceEqDiff, Nat.reduceAdd, Nat.reduceMul, Nat.reduceSub, Nat.reduceBEq, Nat.reduceDiv, Nat.reduceMod, reduceCtorEq, sl1, wFacts, zA, qA, qC, vA, vC, pts_def, bools_def, wSeq, nb_tf, nb_ft, nb_tt, nb_ff]
      exact fin rfl (bad (by unfold ptOk; rw [h1]; rfl)).symm
    rw [h1]
    simp only [w1, ↓wPre, wPost, wFast, wCore, beq_self_eq_true, ite_true, ite_false, false_implies, true_implies, implies_true, eq_self, ne_eq, ↓reduceIte, reduceIte, Nat.reducePow, Nat.reduceLT, Nat.reduceLeDiff, Nat.reduceEqDiff, Nat.reduceAdd, Nat.reduceMul, Nat.reduceSub, Nat.reduceBEq, Nat.reduceDiv, Nat.reduceMod, reduceCtorEq, sl1, wFacts, zA, qA, qC, vA, vC, pts_def, bools_def, wSeq, nb_tf, nb_ft, nb_tt, nb_ff]
    refine call_fn c2 rfl ?_
    by_cases h2 : wb (p.rim.getD i (0, 0)).2 (-65536) 65536 = true
    rotate_left
    · rw [Bool.not_eq_true] at h2
      rw [h2]
      simp only [w1, ↓wPre, wPost, wFast, wCore, beq_self_eq_true, ite_true, ite_false, false_implies, true_implies, implies_true, eq_self, ne_eq, ↓reduceIte, reduceIte, Nat.reducePow, Nat.reduceLT, Nat.reduceLeDiff, Nat.reduceEqDiff, Nat.reduceAdd, Nat.reduceMul, Nat.reduceSub, Nat.reduceBEq, Nat.reduceDiv, Nat.reduceMod, reduceCtorEq, sl1, wFacts, zA, qA, qC, vA, vC, pts_def, bools_def, wSeq, nb_tf, nb_ft, nb_tt, nb_ff]
      exact fin rfl (bad (by unfold ptOk; rw [h1, h2]; rfl)).symm
    rw [h2]
    simp only [w1, ↓wPre, wPost, wFast, wCore, beq_self_eq_true, ite_true, ite_false, false_implies, true_implies, implies_true, eq_self, ne_eq, ↓reduceIte, reduceIte, Nat.reducePow, Nat.reduceLT, Nat.reduceLeDiff, Nat.reduceEqDiff, Nat.reduceAdd, Nat.reduceMul, Nat.reduceSub, Nat.reduceBEq, Nat.reduceDiv, Nat.reduceMod, reduceCtorEq, sl1, wFacts, zA, qA, qC, vA, vC, pts_def, bools_def, wSeq, nb_tf, nb_ft, nb_tt, nb_ff]
    refine next (i + 1) _ ⟨by omega, fun j hj => ?_⟩ (by omega) (sub_cut (m := 1) (Nat.zero_le _) rfl (by simp [subL]) (by simp [subT, look, pts_def, I]) (by simp [pvC, pts_def, bools_def, ints_def, I]) (by simp [wBel]) (by simp [wBel, bp]) (by simp [bo]))
    by_cases hji : j < i
    · exact hok j hji
    · obtain rfl : j = i := by omega
      unfold ptOk; rw [h1, h2]; rfl
  obtain rfl : i = p.rim.length := by omega
  refine vc_soundN 1000 ?_
  simp only [pvC, Int.lt_irrefl, Nat.lt_irrefl, ↓wPre, wPost, wFast, wCore, beq_self_eq_true, ite_true, ite_false, false_implies, true_implies, implies_true, eq_self, ne_eq, ↓reduceIte, reduceIte, Nat.reducePow, Nat.reduceLT, Nat.reduceLeDiff, Nat.reduceEqDiff, Nat.reduceAdd, Nat.reduceMul, Nat.reduceSub, Nat.reduceBEq, Nat.reduceDiv, Nat.reduceMod, reduceCtorEq, sl1, wFacts, zA, qA, qC, vA, vC, pts_def, bools_def, wSeq, nb_tf, nb_ft, nb_tt, nb_ff]
  refine run_loop (fun i : Nat => ⟨7, [8, 9, 10, 26, 27, 28], [.any, .ref 0 0 0, .bool false, .any, .any, .any, .any], [(26, ints p.marks), (27, I p.marks.length), (28, I i)], [.row 0 25 (ofL (pvC p))]⟩) (fun i => i ≤ p.marks.length ∧ ∀ j, j < i → markOk (p.marks.getD j 0) = true) (fun i => p.marks.length - i) 0 ⟨by omega, by omega⟩
    (sub_mk rfl (by simp [subL]) (by simp [subT, look, ints_def, I]) (by simp [pvC, pts_def, bools_def, ints_def, I])) ?_
  rintro i ⟨hi, hmk⟩ next
  have w1 := wj i (by omega)
  by_cases hi2 : i < p.marks.length
  · have f1 : ((i : Int) < p.marks.length) = True := eq_true (by omega)
    have f2 : (i < p.marks.length) = True := eq_true hi2
    have c1 := within_fn (p.marks.getD i 0) 0 1024
    refine vc_soundN 1000 ?_
    simp only [pvC, w1, f1, f2, ints_def, Int.toNat_natCast, ↓wPre, wPost, wFast, wCore, beq_self_eq_true, ite_true, ite_false, false_implies, true_implies, implies_true, eq_self, ne_eq, ↓reduceIte, reduceIte, Nat.reducePow, Nat.reduceLT, Nat.reduceLeDiff, Nat.reduceEqDiff, Nat.reduceAdd, Nat.reduceMul, Nat.reduceSub, Nat.reduceBEq, Nat.reduceDiv, Nat.reduceMod, reduceCtorEq, sl1, wFacts, zA, qA, qC, vA, vC, pts_def, bools_def, wSeq, nb_tf, nb_ft, nb_tt, nb_ff]
    refine call_fn c1 rfl ?_
    by_cases h1 : wb (p.marks.getD i 0) 0 1024 = true
    rotate_left
    · rw [Bool.not_eq_true] at h1
      rw [h1]
      simp only [w1, ↓wPre, wPost, wFast, wCore, beq_self_eq_true, ite_true, ite_false, false_implies, true_implies, implies_true, eq_self, ne_eq, ↓reduceIte, reduceIte, Nat.reducePow, Nat.reduceLT, Nat.reduceLeDiff, Nat.reduceEqDiff, Nat.reduceAdd, Nat.reduceMul, Nat.reduceSub, Nat.reduceBEq, Nat.reduceDiv, Nat.reduceMod, reduceCtorEq, sl1, wFacts, zA, qA, qC, vA, vC, pts_def, bools_def, wSeq, nb_tf, nb_ft, nb_tt, nb_ff]
      refine fin rfl ?_
      rw [hV, decide_eq_false]
      intro hp
      have := hp.2.1 i hi2
      unfold markOk at this
      rw [h1] at this; cases this
    rw [h1]
    simp only [w1, ↓wPre, wPost, wFast, wCore, beq_self_eq_true, ite_true, ite_false, false_implies, true_implies, implies_true, eq_self, ne_eq, ↓reduceIte, reduceIte, Nat.reducePow, Nat.reduceLT, Nat.reduceLeDiff, Nat.reduceEqDiff, Nat.reduceAdd, Nat.reduceMul, Nat.reduceSub, Nat.reduceBEq, Nat.reduceDiv, Nat.reduceMod, reduceCtorEq, sl1, wFacts, zA, qA, qC, vA, vC, pts_def, bools_def, wSeq, nb_tf, nb_ft, nb_tt, nb_ff]
    refine next (i + 1) _ ⟨by omega, fun j hj => ?_⟩ (by omega) (sub_cut (m := 1) (Nat.zero_le _) rfl (by simp [subL]) (by simp [subT, look, ints_def, I]) (by simp [pvC, pts_def, bools_def, ints_def, I]) (by simp [wBel]) (by simp [wBel, bm]) (by simp [bo]))
    by_cases hji : j < i
    · exact hmk j hji
    · obtain rfl : j = i := by omega
      exact h1
  obtain rfl : i = p.marks.length := by omega
  have c1 := within_fn p.id 0 999
  have c2 := within_fn p.home 0 4
  refine vc_soundN 1000 ?_
  simp only [pvC, ints_def, Int.lt_irrefl, Nat.lt_irrefl, ↓wPre, wPost, wFast, wCore, beq_self_eq_true, ite_true, ite_false, false_implies, true_implies, implies_true, eq_self, ne_eq, ↓reduceIte, reduceIte, Nat.reducePow, Nat.reduceLT, Nat.reduceLeDiff, Nat.reduceEqDiff, Nat.reduceAdd, Nat.reduceMul, Nat.reduceSub, Nat.reduceBEq, Nat.reduceDiv, Nat.reduceMod, reduceCtorEq, sl1, wFacts, zA, qA, qC, vA, vC, pts_def, bools_def, wSeq, nb_tf, nb_ft, nb_tt, nb_ff]
  refine call_fn c1 rfl ?_
  by_cases h1 : wb p.id 0 999 = true
  rotate_left
  · rw [Bool.not_eq_true] at h1
    rw [h1]
    simp only [↓wPre, wPost, wFast, wCore, beq_self_eq_true, ite_true, ite_false, false_implies, true_implies, implies_true, eq_self, ne_eq, ↓reduceIte, reduceIte, Nat.reducePow, Nat.reduceLT, Nat.reduceLeDiff, Nat.reduceEqDiff, Nat.reduceAdd, Nat.reduceMul, Nat.reduceSub, Nat.reduceBEq, Nat.reduceDiv, Nat.reduceMod, reduceCtorEq, sl1, wFacts, zA, qA, qC, vA, vC, pts_def, bools_def, wSeq, nb_tf, nb_ft, nb_tt, nb_ff]
    refine fin rfl ?_
    rw [hV, decide_eq_false]
    intro hp
    have := hp.2.2.1
    rw [h1] at this; cases this
  rw [h1]
  simp only [↓wPre, wPost, wFast, wCore, beq_self_eq_true, ite_true, ite_false, false_implies, true_implies, implies_true, eq_self, ne_eq, ↓reduceIte, reduceIte, Nat.reducePow, Nat.reduceLT, Nat.reduceLeDiff, Nat.reduceEqDiff, Nat.reduceAdd, Nat.reduceMul, Nat.reduceSub, Nat.reduceBEq, Nat.reduceDiv, Nat.reduceMod, reduceCtorEq, sl1, wFacts, zA, qA, qC, vA, vC, pts_def, bools_def, wSeq, nb_tf, nb_ft, nb_tt, nb_ff]
  refine call_fn c2 rfl ?_
  simp only [↓wPre, wPost, wFast, wCore, beq_self_eq_true, ite_true, ite_false, false_implies, true_implies, implies_true, eq_self, ne_eq, ↓reduceIte, reduceIte, Nat.reducePow, Nat.reduceLT, Nat.reduceLeDiff, Nat.reduceEqDiff, Nat.reduceAdd, Nat.reduceMul, Nat.reduceSub, Nat.reduceBEq, Nat.reduceDiv, Nat.reduceMod, reduceCtorEq, sl1, wFacts, zA, qA, qC, vA, vC, pts_def, bools_def, wSeq, nb_tf, nb_ft, nb_tt, nb_ff]
  refine fin rfl ?_
  rw [hV]
  by_cases h2 : wb p.home 0 4 = true
  · rw [h2, decide_eq_true ⟨hok, hmk, h1, h2⟩]
  · rw [Bool.not_eq_true] at h2
    rw [h2, decide_eq_false]
    intro hp
    have := hp.2.2.2
    rw [h2] at this; cases this
end
end Go.Ab.N

namespace Go.Ab.N
open Go Go.RowKit Go.Proofs
noncomputable section
set_option maxRecDepth 10000
set_option maxHeartbeats 2000000
set_option linter.unusedSimpArgs false
set_option linter.unusedVariables false
open Classical

/-! ### The rim of a piece as vectors -/
theorem appFs_one {α : Type} (e : α → List AV) (s : Nat) (d : α) (l : List α) (x : α) (hs : 0 < s) : appF (l.length * s) (slFs e s d l) s (ofL (e x)) = slFs e s d (l ++ [x]) := by
  funext j
  unfold appF slFs ofL
  by_cases h1 : j < l.length * s
  · have : j / s < l.length := by rw [Nat.div_lt_iff_lt_mul hs]; exact h1
    have e1 : (l ++ [x]).getD (j / s) d = l.getD (j / s) d := by rw [List.getD_eq_getElem?_getD, List.getD_eq_getElem?_getD, List.getElem?_append_left this]
    rw [if_pos h1, e1]
  · rw [if_neg h1]
    by_cases h2 : j < l.length * s + s
    · rw [if_pos h2]
      have hj : j / s = l.length := by
        refine Nat.div_eq_of_lt_le (by omega) ?_
        rw [Nat.add_mul]; omega
      have hm : j % s = j - l.length * s := by
        have := Nat.div_add_mod j s
        rw [hj, Nat.mul_comm] at this
        omega
      rw [hj, hm]
      simp
    · rw [if_neg h2]
      have hj : l.length + 1 ≤ j / s := by
        rw [Nat.le_div_iff_mul_le hs, Nat.add_mul]; omega
      have e1 : (l ++ [x]).getD (j / s) d = d := by rw [List.getD_eq_getElem?_getD, List.getElem?_eq_none (by simp; omega)]; rfl
      have e2 : l.getD (j / s) d = d := by rw [List.getD_eq_getElem?_getD, List.getElem?_eq_none (by omega)]; rfl
      rw [e1, e2]
def ptV (c : Int × Int) : V2 := ⟨c.1, c.2⟩
def rimV (l : List (Int × Int)) : List V2 := l.map ptV
theorem take_succD {α : Type} (l : List α) (d : α) {i : Nat} (h : i < l.length) : l.take (i + 1) = l.take i ++ [l.getD i d] := by
  rw [List.take_succ_eq_append_getElem h, List.getD_eq_getElem?_getD, List.getElem?_eq_getElem h]; rfl
theorem rim_fn (p : PV) (hl : p.rim.length < 1000000) (hr : ∀ i, i < p.rim.length → ptOk (p.rim.getD i (0, 0)) = true) : Fn Try.prog 39 [pvA p] (vecs (rimV p.rim)) := by
  obtain ⟨R, hR⟩ : ∃ R, R = vecs (rimV p.rim) := ⟨_, rfl⟩
  have sR : Settled R := hR ▸ settled_vecs _
  have bp : Bel 2 (pts p.rim) = True := eq_true (bel_of_settled (settled_pts _))
  have bo : belO 2 (.row 0 25 (ofL (pvC p))) = True := eq_true (belO_set (settled_pvC p))
  have hvc : ∀ a : V2, ∀ x ∈ vC a, Settled x := fun a => by simp [vC, settled_ints, settled_bool]
  have br : ∀ i l n, belO 2 (.row i n (slFs vC 8 v0 l)) = True := fun i l n => eq_true fun j _ => bel_of_settled (settled_cells (hvc _) _)
  rw [← hR]
  refine Fn.intro (fn := Try.f39) Try.call39 Try.func39 rfl mixed 6 [7, 8, 9] [] [] (by kernel_rfl) (Nat.le_of_ble_eq_true rfl) (by simp [settled_pvA]) (vc_soundN 1000 ?_)
  simp only [AS.start, pvA, pvC, ↓wPre, wPost, wFast, wCore, beq_self_eq_true, ite_true, ite_false, false_implies, true_implies, implies_true, eq_self, ne_eq, ↓reduceIte, reduceIte, Nat.reducePow, Nat.reduceLT, Nat.reduceLeDiff, Nat.reduceEqDiff, Nat.reduceAdd, Nat.reduceMul, Nat.reduceSub, Nat.reduceBEq, Nat.reduceDiv, Nat.reduceMod, reduceCtorEq, sl1, wFacts, zA, qA, qC, vA, vC, pts_def, bools_def, wSeq, nb_tf, nb_ft, nb_tt, nb_ff]
  refine run_loop (fun i : Nat => ⟨6, [7, 8, 9], [.any, .ref 0 0 0, .any, .osl 1 i 8 0 i, .any, .any], [(7, pts p.rim), (8, I p.rim.length), (9, I i)], [.row 0 25 (ofL (pvC p)), .row i (i * 8) (slFs vC 8 v0 (rimV (p.rim.take i)))]⟩) (fun i => i ≤ p.rim.length) (fun i => p.rim.length - i) 0 (by omega)
    ((sub_adopt 3 8 (slFs vC 8 v0 []) rfl).trans (sub_mk rfl (by simp [AS.put, subL]) (by simp [AS.put, subT, look, pts_def, I]) (by simp [AS.put, pvC, pts_def, bools_def, ints_def, I, rimV]))) ?_
  intro i hi next
  have w1 := wj i (by omega)
  by_cases hi2 : i < p.rim.length
  · have f1 : ((i : Int) < p.rim.length) = True := eq_true (by omega)
    have f2 : (i < p.rim.length) = True := eq_true hi2
    have f3 : (i * 2 + 2 ≤ p.rim.length * 2) = True := eq_true (by omega)
    have v1 := ptF p.rim i
    have hok := hr i hi2
    unfold ptOk wb at hok
    simp only [Bool.and_eq_true, decide_eq_true_eq] at hok
    have c1 := pof_fn (p.rim.getD i (0, 0)).1 (p.rim.getD i (0, 0)).2 ⟨by omega, by omega⟩ ⟨by omega, by omega⟩
    refine vc_soundN 1000 ?_
    simp only [pvC, w1, f1, f2, f3, v1, Int.toNat_natCast, ↓wPre, wPost, wFast, wCore, beq_self_eq_true, ite_true, ite_false, false_implies, true_implies, implies_true, eq_self, ne_eq, ↓reduceIte, reduceIte, Nat.reducePow, Nat.reduceLT, Nat.reduceLeDiff, Nat.reduceEqDiff, Nat.reduceAdd, Nat.reduceMul, Nat.reduceSub, Nat.reduceBEq, Nat.reduceDiv, Nat.reduceMod, reduceCtorEq, sl1, wFacts, zA, qA, qC, vA, vC, pts_def, bools_def, wSeq, nb_tf, nb_ft, nb_tt, nb_ff]
    refine call_fn c1 rfl ?_
    simp only [w1, ↓wPre, wPost, wFast, wCore, beq_self_eq_true, ite_true, ite_false, false_implies, true_implies, implies_true, eq_self, ne_eq, ↓reduceIte, reduceIte, Nat.reducePow, Nat.reduceLT, Nat.reduceLeDiff, Nat.reduceEqDiff, Nat.reduceAdd, Nat.reduceMul, Nat.reduceSub, Nat.reduceBEq, Nat.reduceDiv, Nat.reduceMod, reduceCtorEq, sl1, wFacts, zA, qA, qC, vA, vC, pts_def, bools_def, wSeq, nb_tf, nb_ft, nb_tt, nb_ff]
    have hap := appFs_one vC 8 v0 (rimV (p.rim.take i)) (ptV (p.rim.getD i (0, 0))) (by omega)
    have hlen : (rimV (p.rim.take i)).length = i := by simp [rimV]; omega
    have htk : rimV (p.rim.take i) ++ [ptV (p.rim.getD i (0, 0))] = rimV (p.rim.take (i + 1)) := by rw [take_succD _ (0, 0) hi2]; simp [rimV]
    rw [hlen, htk] at hap
    refine ⟨⟨fun j hj => ?_, by omega, by omega⟩, next (i + 1) _ (by omega) (by omega) (sub_cut (m := 2) (Nat.zero_le _) rfl (by simp [subL]) (by simp [subT, look, pts_def, I]) (by rw [← hap]; rfl) (by simp [wBel]) (by simp [wBel, bp]) (by simp [bo, br]))⟩
    match j, hj with
    | 0, _ => rfl
    | 1, _ => rfl
    | 2, _ => rfl
    | 3, _ => rfl
    | 4, _ => rfl
    | 5, _ => rfl
    | 6, _ => rfl
    | 7, _ => rfl
    | j + 8, h => omega
  obtain rfl : i = p.rim.length := by omega
  refine vc_soundN 1000 ?_
  simp only [pvC, Int.lt_irrefl, Nat.lt_irrefl, ↓wPre, wPost, wFast, wCore, beq_self_eq_true, ite_true, ite_false, false_implies, true_implies, implies_true, eq_self, ne_eq, ↓reduceIte, reduceIte, Nat.reducePow, Nat.reduceLT, Nat.reduceLeDiff, Nat.reduceEqDiff, Nat.reduceAdd, Nat.reduceMul, Nat.reduceSub, Nat.reduceBEq, Nat.reduceDiv, Nat.reduceMod, reduceCtorEq, sl1, wFacts, zA, qA, qC, vA, vC, pts_def, bools_def, wSeq, nb_tf, nb_ft, nb_tt, nb_ff]
  refine ret1 rfl ?_
  have hlen : (rimV p.rim).length = p.rim.length := by simp [rimV]
  rw [hR, vecs_def, hlen]
  refine sees_osl (n := p.rim.length) (.inl rfl) (by omega) (fun h => by rw [h]) fun j hj => ?_
  rw [List.take_length, Nat.zero_add]
  exact (settled_cells (hvc _) _).sees _
end
end Go.Ab.N

