/- Contracts of functions of these chapters, for every argument that fits, and what they need. -/
import Derived.Test.YtefjhgcndhepeaaC9
set_option linter.unusedSimpArgs false
set_option linter.unusedVariables false
namespace Go.Ab.N
open Go Go.RowKit Go.Proofs
noncomputable section
set_option maxRecDepth 10000
set_option maxHeartbeats 4000000
set_option linter.unusedSimpArgs false
set_option linter.unusedVariables false
open Classical

/-! ### Which pieces are valid -/
theorem qb_of_sz (r : Rat) : qb r ≤ (RQ.of r).sz + 3 := by
  unfold qb RQ.sz RQ.of bl Ab.N.qd
  simp only
  by_cases h : r.den = 1
  · rw [if_pos h, h]
    have : (digs ((1 : Nat) : Int).natAbs).length ≤ 3 := bl_i64 ⟨by omega, by omega⟩
    omega
  · rw [if_neg h]
    have : ((r.den : Int)).natAbs = r.den := rfl
    rw [this]
    omega
theorem rsignR {x : RQ} {q : Rat} (h : x = RQ.of q) : Fn Try.prog 16 [x.A] (I q.num.sign) := by rw [h]; exact rsign_fn q
theorem rcmpR {x y : RQ} {a b : Rat} (hx : x = RQ.of a) (hy : y = RQ.of b) (sx : x.sz ≤ 1000000) (sy : y.sz ≤ 1000000) : Fn Try.prog 26 [x.A, y.A] (I (qcmp a b)) := by
  rw [hx] at sx; rw [hy] at sy
  have h1 := qb_of_sz a; have h2 := qb_of_sz b
  rw [hx, hy]; exact rcompare_fn a b (by unfold rm; omega) (by unfold rm; omega)
theorem rcmpN {x : RQ} {a : Rat} (hx : x = RQ.of a) (sx : x.sz ≤ 1000000) (b : Rat) (hb : qb b ≤ rm) : Fn Try.prog 26 [x.A, qA b] (I (qcmp a b)) := by
  rw [hx] at sx
  have h1 := qb_of_sz a
  rw [hx]; exact rcompare_fn a b (by unfold rm; omega) hb
structure PV.small (p : PV) : Prop where
  rim : p.rim.length < 1000000
  worn : p.worn.length < 1000000
  marks : p.marks.length < 1000000
  tol : p.tol.sz ≤ 1000000
  light : p.light.sz ≤ 1000000
  heavy : p.heavy.sz ≤ 1000000
  strength : p.strength.sz ≤ 1000000
  rough : p.rough.sz ≤ 1000000
def nonneg (x : RQ) : Prop := ∃ q : Rat, x = RQ.of q ∧ ¬ q.num.sign < 0
/-- A valid piece, but for the ranges. -/
def fineP (p : PV) : Prop := (p.rim.length ≤ 12 ∧ p.worn.length = p.rim.length ∧ p.marks.length = p.rim.length) ∧
  (∃ t l h s r : Rat, (p.tol = RQ.of t ∧ p.light = RQ.of l ∧ p.heavy = RQ.of h ∧ p.strength = RQ.of s ∧ p.rough = RQ.of r) ∧ (0 ≤ t ∧ t ≤ 4 ∧ 0 ≤ r ∧ r ≤ 4) ∧ (0 < l ∧ l ≤ h ∧ h ≤ 1000) ∧ 0 < s) ∧ polyOk (rimV p.rim)
def pieceErr (p : PV) : Int := if rangeOk p then (if fineP p then 0 else 1) else 5
theorem sign_lt (q : Rat) : q.num.sign < 0 ↔ q < 0 := by rw [Int.sign_neg_iff, Rat.lt_iff]; simp
theorem sign_gt (q : Rat) : 0 < q.num.sign ↔ 0 < q := by rw [Int.sign_pos_iff, Rat.lt_iff]; simp
theorem sign_eq (q : Rat) : q.num.sign = 0 ↔ q = 0 := by rw [Int.sign_eq_zero_iff_zero]; exact Rat.num_eq_zero
theorem divInt_one (n : Int) : Rat.divInt n 1 = (n : Rat) := by
  rw [show (1 : Int) = ((1 : Nat) : Int) from rfl, Rat.divInt_ofNat]
  have := Rat.mkRat_self (n : Rat)
  rwa [Rat.num_intCast, Rat.den_intCast] at this

theorem rimV_small (p : PV) (h : ∀ i, i < p.rim.length → ptOk (p.rim.getD i (0, 0)) = true) : smallV (rimV p.rim) 1000 := by
  intro i
  by_cases hi : i < p.rim.length
  · have h1 : (rimV p.rim).getD i v0 = ptV (p.rim.getD i (0, 0)) := by
      unfold rimV
      rw [List.getD_eq_getElem?_getD, List.getD_eq_getElem?_getD, List.getElem?_map, List.getElem?_eq_getElem hi]; rfl
    have hok := h i hi
    unfold ptOk wb at hok
    simp only [Bool.and_eq_true, decide_eq_true_eq] at hok
    rw [h1]
    have q1 := qb_int (p.rim.getD i (0, 0)).1 3 (by omega) (bl_i64 ⟨by omega, by omega⟩)
    have q2 := qb_int (p.rim.getD i (0, 0)).2 3 (by omega) (bl_i64 ⟨by omega, by omega⟩)
    unfold vb ptV
    simp only
    omega
  · have h1 : (rimV p.rim).getD i v0 = v0 := by
      rw [List.getD_eq_getElem?_getD, List.getElem?_eq_none (by simp [rimV]; omega)]; rfl
    rw [h1]
    have := qb_zero
    unfold vb v0
    simp only
    omega
theorem piece_valid_fn (p : PV) (hs : p.small) : Fn Try.prog 21 [pvA p] (I (pieceErr p)) := by
  obtain ⟨V, hV⟩ : ∃ V, V = pieceErr p := ⟨_, rfl⟩
  have fin : ∀ {s : AS} {v : Int}, s.get 2 = I v → v = V → RetOk (envP Try.prog Try.f21 [] [] (I V)) s := fun h e => ret1E rfl h (settled_I _) (by rw [e])
  have c0 := inRange_fn p hs.rim hs.marks
  rw [← hV]
  refine Fn.intro (fn := Try.f21) Try.call21 Try.func21 rfl mixed 9 [32, 33] [] [] (by kernel_rfl) (Nat.le_of_ble_eq_true rfl) (by simp [settled_pvA]) (vc_soundN 1000 ?_)
  simp only [AS.start, pvA, pvC, ↓wPre, wPost, wFast, wCore, beq_self_eq_true, ite_true, ite_false, false_implies, true_implies, implies_true, eq_self, ne_eq, ↓reduceIte, reduceIte, Nat.reducePow, Nat.reduceLT, Nat.reduceLeDiff, Nat.reduceEqDiff, Nat.reduceAdd, Nat.reduceMul, Nat.reduceSub, Nat.reduceBEq, Nat.reduceDiv, Nat.reduceMod, reduceCtorEq, sl1, wFacts, zA, qA, qC, vA, vC, pts_def, bools_def, wSeq, nb_tf, nb_ft, nb_tt, nb_ff]
  refine call_fn c0 rfl ?_
  by_cases hro : rangeOk p
  rotate_left
  · rw [decide_eq_false hro]
    simp only [↓wPre, wPost, wFast, wCore, beq_self_eq_true, ite_true, ite_false, false_implies, true_implies, implies_true, eq_self, ne_eq, ↓reduceIte, reduceIte, Nat.reducePow, Nat.reduceLT, Nat.reduceLeDiff, Nat.reduceEqDiff, Nat.reduceAdd, Nat.reduceMul, Nat.reduceSub, Nat.reduceBEq, Nat.reduceDiv, Nat.reduceMod, reduceCtorEq, sl1, wFacts, zA, qA, qC, vA, vC, pts_def, bools_def, wSeq, nb_tf, nb_ft, nb_tt, nb_ff]
    exact fin rfl (by rw [hV]; unfold pieceErr; rw [if_neg hro])
  rw [decide_eq_true hro]
  have hV1 : V = if fineP p then 0 else 1 := by rw [hV]; unfold pieceErr; rw [if_pos hro]
  have bad : ¬ fineP p → (1 : Int) = V := fun h => by rw [hV1, if_neg h]
  by_cases g1 : (12 : Int) < p.rim.length
  · have f1 : ((12 : Int) < p.rim.length) = True := eq_true g1
    simp only [f1, ↓wPre, wPost, wFast, wCore, beq_self_eq_true, ite_true, ite_false, false_implies, true_implies, implies_true, eq_self, ne_eq, ↓reduceIte, reduceIte, Nat.reducePow, Nat.reduceLT, Nat.reduceLeDiff, Nat.reduceEqDiff, Nat.reduceAdd, Nat.reduceMul, Nat.reduceSub, Nat.reduceBEq, Nat.reduceDiv, Nat.reduceMod, reduceCtorEq, sl1, wFacts, zA, qA, qC, vA, vC, pts_def, bools_def, wSeq, nb_tf, nb_ft, nb_tt, nb_ff]
    exact fin rfl (bad fun h => by have := h.1.1; omega)
  have f1 : ((12 : Int) < p.rim.length) = False := eq_false g1
  by_cases g2 : p.worn.length = p.rim.length
  rotate_left
  · have f2 : (p.worn.length = p.rim.length) = False := eq_false g2
    have f2' : ((p.worn.length : Int) = p.rim.length) = False := eq_false (by omega)
    simp only [f1, f2, f2', ↓wPre, wPost, wFast, wCore, beq_self_eq_true, ite_true, ite_false, false_implies, true_implies, implies_true, eq_self, ne_eq, ↓reduceIte, reduceIte, Nat.reducePow, Nat.reduceLT, Nat.reduceLeDiff, Nat.reduceEqDiff, Nat.reduceAdd, Nat.reduceMul, Nat.reduceSub, Nat.reduceBEq, Nat.reduceDiv, Nat.reduceMod, reduceCtorEq, sl1, wFacts, zA, qA, qC, vA, vC, pts_def, bools_def, wSeq, nb_tf, nb_ft, nb_tt, nb_ff]
    exact fin rfl (bad fun h => g2 h.1.2.1)
  have f2 : (p.worn.length = p.rim.length) = True := eq_true g2
  have f2' : ((p.worn.length : Int) = p.rim.length) = True := eq_true (by omega)
  by_cases g3 : p.marks.length = p.rim.length
  rotate_left
  · have f3 : (p.marks.length = p.rim.length) = False := eq_false g3
    have f3' : ((p.marks.length : Int) = p.rim.length) = False := eq_false (by omega)
    simp only [f1, f2, f2', f3, f3', ↓wPre, wPost, wFast, wCore, beq_self_eq_true, ite_true, ite_false, false_implies, true_implies, implies_true, eq_self, ne_eq, ↓reduceIte, reduceIte, Nat.reducePow, Nat.reduceLT, Nat.reduceLeDiff, Nat.reduceEqDiff, Nat.reduceAdd, Nat.reduceMul, Nat.reduceSub, Nat.reduceBEq, Nat.reduceDiv, Nat.reduceMod, reduceCtorEq, sl1, wFacts, zA, qA, qC, vA, vC, pts_def, bools_def, wSeq, nb_tf, nb_ft, nb_tt, nb_ff]
    exact fin rfl (bad fun h => g3 h.1.2.2)
  have f3 : (p.marks.length = p.rim.length) = True := eq_true g3
  have f3' : ((p.marks.length : Int) = p.rim.length) = True := eq_true (by omega)
  simp only [f1, f2, f2', f3, f3', ↓wPre, wPost, wFast, wCore, beq_self_eq_true, ite_true, ite_false, false_implies, true_implies, implies_true, eq_self, ne_eq, ↓reduceIte, reduceIte, Nat.reducePow, Nat.reduceLT, Nat.reduceLeDiff, Nat.reduceEqDiff, Nat.reduceAdd, Nat.reduceMul, Nat.reduceSub, Nat.reduceBEq, Nat.reduceDiv, Nat.reduceMod, reduceCtorEq, sl1, wFacts, zA, qA, qC, vA, vC, pts_def, bools_def, wSeq, nb_tf, nb_ft, nb_tt, nb_ff]
  have cn := numbers_fn p
  refine call_fn cn rfl ?_
  simp only [numC, ↓wPre, wPost, wFast, wCore, beq_self_eq_true, ite_true, ite_false, false_implies, true_implies, implies_true, eq_self, ne_eq, ↓reduceIte, reduceIte, Nat.reducePow, Nat.reduceLT, Nat.reduceLeDiff, Nat.reduceEqDiff, Nat.reduceAdd, Nat.reduceMul, Nat.reduceSub, Nat.reduceBEq, Nat.reduceDiv, Nat.reduceMod, reduceCtorEq, sl1, wFacts, zA, qA, qC, vA, vC, pts_def, bools_def, wSeq, nb_tf, nb_ft, nb_tt, nb_ff]
  refine run_loop (fun i : Nat => ⟨9, [32, 33], [.any, .ref 0 0 0, I 0, I p.rim.length, .any, .any, .any, .any, .any], [(32, .agg (numC p)), (33, I i)], [.row 0 25 (ofL (pvC p))]⟩) (fun i => i ≤ 5 ∧ ∀ j, j < i → nonneg (p.num j)) (fun i => 5 - i) 0 ⟨by omega, by omega⟩
    (sub_mk rfl (by simp [subL, I]) (by simp [subT, look, numC, ints_def, I]) (by simp [pvC, pts_def, bools_def, ints_def, I])) ?_
  rintro i ⟨hi, hok⟩ next
  have bn : Bel 1 (.agg (numC p)) = True := eq_true (bel_of_settled (settled_agg (by simp [numC, settled_ints, settled_bool])))
  have bo : belO 1 (.row 0 25 (ofL (pvC p))) = True := eq_true (belO_set (settled_pvC p))
  have badi : ∀ j, j < 5 → ¬ nonneg (p.num j) → (1 : Int) = V := fun j hj hn => bad fun h => by
    obtain ⟨t, l, hh, s, r, ⟨e1, e2, e3, e4, e5⟩, ⟨b1, b2, b3, b4⟩, ⟨b5, b6, b7⟩, b8⟩ := h.2.1
    apply hn
    match j, hj with
    | 0, _ => exact ⟨t, e1, by rw [sign_lt, Rat.not_lt]; exact b1⟩
    | 1, _ => exact ⟨l, e2, by rw [sign_lt, Rat.not_lt]; exact Rat.le_of_lt b5⟩
    | 2, _ => exact ⟨hh, e3, by rw [sign_lt, Rat.not_lt]; exact Rat.le_trans (Rat.le_of_lt b5) b6⟩
    | 3, _ => exact ⟨s, e4, by rw [sign_lt, Rat.not_lt]; exact Rat.le_of_lt b8⟩
    | 4, _ => exact ⟨r, e5, by rw [sign_lt, Rat.not_lt]; exact b3⟩
    | j + 5, h => omega
  have hsz : ∀ j, (p.num j).sz < 1000000000 := fun j => by
    have := hs.tol; have := hs.light; have := hs.heavy; have := hs.strength; have := hs.rough
    match j with
    | 0 => show p.tol.sz < _; omega
    | 1 => show p.light.sz < _; omega
    | 2 => show p.heavy.sz < _; omega
    | 3 => show p.strength.sz < _; omega
    | j + 4 => show p.rough.sz < _; omega
  have e5 : ((5 : Nat) : Int) = 5 := rfl
  by_cases hi5 : i < 5
  · have c1 := rvalid_fn (p.num i) (hsz i)
    have w0 : IntKind.i64.wrap (0 + 1) = 1 := by decide
    have w1 : IntKind.i64.wrap (1 + 1) = 2 := by decide
    have w2 : IntKind.i64.wrap (2 + 1) = 3 := by decide
    have w3 : IntKind.i64.wrap (3 + 1) = 4 := by decide
    have w4 : IntKind.i64.wrap (4 + 1) = 5 := by decide
    have e0 : ((0 : Nat) : Int) = 0 := rfl
    have e1 : ((1 : Nat) : Int) = 1 := rfl
    have e2 : ((2 : Nat) : Int) = 2 := rfl
    have e3 : ((3 : Nat) : Int) = 3 := rfl
    have e4 : ((4 : Nat) : Int) = 4 := rfl
    have t1 : (1 : Int).toNat = 1 := rfl
    have t2 : (2 : Int).toNat = 2 := rfl
    have t3 : (3 : Int).toNat = 3 := rfl
    have t4 : (4 : Int).toNat = 4 := rfl
    have hcase : i = 0 ∨ i = 1 ∨ i = 2 ∨ i = 3 ∨ i = 4 := by omega
    by_cases hv : (p.num i).ok
    rotate_left
    · rw [decide_eq_false hv] at c1
      have hb := badi i hi5 fun ⟨q, hq, _⟩ => hv ⟨q, hq⟩
      rcases hcase with rfl | rfl | rfl | rfl | rfl
      all_goals
        refine vc_soundN 1000 ?_
        simp only [pvC, numC, e0, e1, e2, e3, e4, e5, t1, t2, t3, t4, w0, w1, w2, w3, w4, Int.reduceLT, Int.reduceLE, Int.toNat_zero, ↓wPre, wPost, wFast, wCore, beq_self_eq_true, ite_true, ite_false, false_implies, true_implies, implies_true, eq_self, ne_eq, ↓reduceIte, reduceIte, Nat.reducePow, Nat.reduceLT, Nat.reduceLeDiff, Nat.reduceEqDiff, Nat.reduceAdd, Nat.reduceMul, Nat.reduceSub, Nat.reduceBEq, Nat.reduceDiv, Nat.reduceMod, reduceCtorEq, sl1, wFacts, zA, qA, qC, vA, vC, pts_def, bools_def, wSeq, nb_tf, nb_ft, nb_tt, nb_ff]
        refine call_fn c1 rfl ?_
        simp only [↓wPre, wPost, wFast, wCore, beq_self_eq_true, ite_true, ite_false, false_implies, true_implies, implies_true, eq_self, ne_eq, ↓reduceIte, reduceIte, Nat.reducePow, Nat.reduceLT, Nat.reduceLeDiff, Nat.reduceEqDiff, Nat.reduceAdd, Nat.reduceMul, Nat.reduceSub, Nat.reduceBEq, Nat.reduceDiv, Nat.reduceMod, reduceCtorEq, sl1, wFacts, zA, qA, qC, vA, vC, pts_def, bools_def, wSeq, nb_tf, nb_ft, nb_tt, nb_ff]
        exact fin rfl hb
    obtain ⟨q, hq⟩ := hv
    rw [decide_eq_true ⟨q, hq⟩] at c1
    have c2 := rsignR hq
    by_cases hn : q.num.sign < 0
    · have g1 : (q.num.sign < 0) = True := eq_true hn
      have hb := badi i hi5 fun ⟨q', hq', h'⟩ => by
        have := RQ.of_inj (hq'.symm.trans hq)
        rw [this] at h'; exact h' hn
      rcases hcase with rfl | rfl | rfl | rfl | rfl
      all_goals
        refine vc_soundN 1000 ?_
        simp only [pvC, numC, e0, e1, e2, e3, e4, e5, t1, t2, t3, t4, w0, w1, w2, w3, w4, Int.reduceLT, Int.reduceLE, Int.toNat_zero, ↓wPre, wPost, wFast, wCore, beq_self_eq_true, ite_true, ite_false, false_implies, true_implies, implies_true, eq_self, ne_eq, ↓reduceIte, reduceIte, Nat.reducePow, Nat.reduceLT, Nat.reduceLeDiff, Nat.reduceEqDiff, Nat.reduceAdd, Nat.reduceMul, Nat.reduceSub, Nat.reduceBEq, Nat.reduceDiv, Nat.reduceMod, reduceCtorEq, sl1, wFacts, zA, qA, qC, vA, vC, pts_def, bools_def, wSeq, nb_tf, nb_ft, nb_tt, nb_ff]
        refine call_fn c1 rfl ?_
        simp only [↓wPre, wPost, wFast, wCore, beq_self_eq_true, ite_true, ite_false, false_implies, true_implies, implies_true, eq_self, ne_eq, ↓reduceIte, reduceIte, Nat.reducePow, Nat.reduceLT, Nat.reduceLeDiff, Nat.reduceEqDiff, Nat.reduceAdd, Nat.reduceMul, Nat.reduceSub, Nat.reduceBEq, Nat.reduceDiv, Nat.reduceMod, reduceCtorEq, sl1, wFacts, zA, qA, qC, vA, vC, pts_def, bools_def, wSeq, nb_tf, nb_ft, nb_tt, nb_ff]
        refine call_fn c2 rfl ?_
        simp only [g1, ↓wPre, wPost, wFast, wCore, beq_self_eq_true, ite_true, ite_false, false_implies, true_implies, implies_true, eq_self, ne_eq, ↓reduceIte, reduceIte, Nat.reducePow, Nat.reduceLT, Nat.reduceLeDiff, Nat.reduceEqDiff, Nat.reduceAdd, Nat.reduceMul, Nat.reduceSub, Nat.reduceBEq, Nat.reduceDiv, Nat.reduceMod, reduceCtorEq, sl1, wFacts, zA, qA, qC, vA, vC, pts_def, bools_def, wSeq, nb_tf, nb_ft, nb_tt, nb_ff]
        exact fin rfl hb
    have g1 : (q.num.sign < 0) = False := eq_false hn
    have nx := next (i + 1)
    rcases hcase with rfl | rfl | rfl | rfl | rfl
    all_goals
      refine vc_soundN 1000 ?_
      simp only [pvC, numC, e0, e1, e2, e3, e4, e5, t1, t2, t3, t4, w0, w1, w2, w3, w4, Int.reduceLT, Int.reduceLE, Int.toNat_zero, ↓wPre, wPost, wFast, wCore, beq_self_eq_true, ite_true, ite_false, false_implies, true_implies, implies_true, eq_self, ne_eq, ↓reduceIte, reduceIte, Nat.reducePow, Nat.reduceLT, Nat.reduceLeDiff, Nat.reduceEqDiff, Nat.reduceAdd, Nat.reduceMul, Nat.reduceSub, Nat.reduceBEq, Nat.reduceDiv, Nat.reduceMod, reduceCtorEq, sl1, wFacts, zA, qA, qC, vA, vC, pts_def, bools_def, wSeq, nb_tf, nb_ft, nb_tt, nb_ff]
      refine call_fn c1 rfl ?_
      simp only [w0, w1, w2, w3, w4, ↓wPre, wPost, wFast, wCore, beq_self_eq_true, ite_true, ite_false, false_implies, true_implies, implies_true, eq_self, ne_eq, ↓reduceIte, reduceIte, Nat.reducePow, Nat.reduceLT, Nat.reduceLeDiff, Nat.reduceEqDiff, Nat.reduceAdd, Nat.reduceMul, Nat.reduceSub, Nat.reduceBEq, Nat.reduceDiv, Nat.reduceMod, reduceCtorEq, sl1, wFacts, zA, qA, qC, vA, vC, pts_def, bools_def, wSeq, nb_tf, nb_ft, nb_tt, nb_ff]
      refine call_fn c2 rfl ?_
      simp only [g1, w0, w1, w2, w3, w4, ↓wPre, wPost, wFast, wCore, beq_self_eq_true, ite_true, ite_false, false_implies, true_implies, implies_true, eq_self, ne_eq, ↓reduceIte, reduceIte, Nat.reducePow, Nat.reduceLT, Nat.reduceLeDiff, Nat.reduceEqDiff, Nat.reduceAdd, Nat.reduceMul, Nat.reduceSub, Nat.reduceBEq, Nat.reduceDiv, Nat.reduceMod, reduceCtorEq, sl1, wFacts, zA, qA, qC, vA, vC, pts_def, bools_def, wSeq, nb_tf, nb_ft, nb_tt, nb_ff]
      refine nx _ ⟨by omega, fun j hj => ?_⟩ (by omega) (sub_cut (m := 1) (Nat.zero_le _) rfl (by simp [subL, I]) (by simp [subT, look, numC, ints_def, I]) (by simp [pvC, pts_def, bools_def, ints_def, I]) (by simp [wBel]) (by simp [wBel, bn]) (by simp [bo]))
      rcases Nat.lt_succ_iff_lt_or_eq.1 hj with h | h
      · exact hok j h
      · rw [h]; exact ⟨q, hq, hn⟩
  obtain rfl : i = 5 := by omega
  obtain ⟨t, et, nt⟩ := hok 0 (by omega)
  obtain ⟨l, el, nl⟩ := hok 1 (by omega)
  obtain ⟨h, eh, nh⟩ := hok 2 (by omega)
  obtain ⟨s, es, ns⟩ := hok 3 (by omega)
  obtain ⟨r, er, nr⟩ := hok 4 (by omega)
  refine vc_soundN 1000 ?_
  simp only [pvC, e5, Int.lt_irrefl, ↓wPre, wPost, wFast, wCore, beq_self_eq_true, ite_true, ite_false, false_implies, true_implies, implies_true, eq_self, ne_eq, ↓reduceIte, reduceIte, Nat.reducePow, Nat.reduceLT, Nat.reduceLeDiff, Nat.reduceEqDiff, Nat.reduceAdd, Nat.reduceMul, Nat.reduceSub, Nat.reduceBEq, Nat.reduceDiv, Nat.reduceMod, reduceCtorEq, sl1, wFacts, zA, qA, qC, vA, vC, pts_def, bools_def, wSeq, nb_tf, nb_ft, nb_tt, nb_ff]
  have c4 := rof_fn 4 1 ⟨by omega, by omega⟩ ⟨by omega, by omega⟩
  have c1000 := rof_fn 1000 1 ⟨by omega, by omega⟩ ⟨by omega, by omega⟩
  rw [divInt_one] at c4 c1000
  have q4 : qb ((4 : Int) : Rat) ≤ rm := by
    have := qb_int 4 3 (by omega) (bl_i64 ⟨by omega, by omega⟩)
    unfold rm; omega
  have q1000 : qb ((1000 : Int) : Rat) ≤ rm := by
    have := qb_int 1000 3 (by omega) (bl_i64 ⟨by omega, by omega⟩)
    unfold rm; omega
  have ct := rcmpN et hs.tol ((4 : Int) : Rat) q4
  have cr := rcmpN er hs.rough ((4 : Int) : Rat) q4
  have ch := rcmpN eh hs.heavy ((1000 : Int) : Rat) q1000
  have clh := rcmpR el eh hs.light hs.heavy
  have i4 : ((4 : Int) : Rat) = 4 := rfl
  have i1000 : ((1000 : Int) : Rat) = 1000 := rfl
  have who : fineP p → (0 ≤ t ∧ t ≤ 4 ∧ 0 ≤ r ∧ r ≤ 4) ∧ (0 < l ∧ l ≤ h ∧ h ≤ 1000) ∧ 0 < s ∧ polyOk (rimV p.rim) := by
    rintro ⟨_, ⟨t', l', h', s', r', ⟨a1, a2, a3, a4, a5⟩, b1, b2, b3⟩, b4⟩
    have := RQ.of_inj (a1.symm.trans et); subst this
    have := RQ.of_inj (a2.symm.trans el); subst this
    have := RQ.of_inj (a3.symm.trans eh); subst this
    have := RQ.of_inj (a4.symm.trans es); subst this
    have := RQ.of_inj (a5.symm.trans er); subst this
    exact ⟨b1, b2, b3, b4⟩
  refine call_fn c4 rfl ?_
  simp only [↓wPre, wPost, wFast, wCore, beq_self_eq_true, ite_true, ite_false, false_implies, true_implies, implies_true, eq_self, ne_eq, ↓reduceIte, reduceIte, Nat.reducePow, Nat.reduceLT, Nat.reduceLeDiff, Nat.reduceEqDiff, Nat.reduceAdd, Nat.reduceMul, Nat.reduceSub, Nat.reduceBEq, Nat.reduceDiv, Nat.reduceMod, reduceCtorEq, sl1, wFacts, zA, qA, qC, vA, vC, pts_def, bools_def, wSeq, nb_tf, nb_ft, nb_tt, nb_ff]
  refine call_fn ct rfl ?_
  by_cases ht4 : qcmp t ((4 : Int) : Rat) ≤ 0
  rotate_left
  · have j1 : (qcmp t ((4 : Int) : Rat) ≤ 0) = False := eq_false ht4
    have hb := bad fun hf => ht4 ((qcmp_le _ _).2 (who hf).1.2.1)
    simp only [j1, ↓wPre, wPost, wFast, wCore, beq_self_eq_true, ite_true, ite_false, false_implies, true_implies, implies_true, eq_self, ne_eq, ↓reduceIte, reduceIte, Nat.reducePow, Nat.reduceLT, Nat.reduceLeDiff, Nat.reduceEqDiff, Nat.reduceAdd, Nat.reduceMul, Nat.reduceSub, Nat.reduceBEq, Nat.reduceDiv, Nat.reduceMod, reduceCtorEq, sl1, wFacts, zA, qA, qC, vA, vC, pts_def, bools_def, wSeq, nb_tf, nb_ft, nb_tt, nb_ff]
    refine call_fn (rsignR el) rfl ?_
    by_cases hl0 : 0 < l.num.sign
    rotate_left
    · have k1 : (0 < l.num.sign) = False := eq_false hl0
      simp only [j1, k1, ↓wPre, wPost, wFast, wCore, beq_self_eq_true, ite_true, ite_false, false_implies, true_implies, implies_true, eq_self, ne_eq, ↓reduceIte, reduceIte, Nat.reducePow, Nat.reduceLT, Nat.reduceLeDiff, Nat.reduceEqDiff, Nat.reduceAdd, Nat.reduceMul, Nat.reduceSub, Nat.reduceBEq, Nat.reduceDiv, Nat.reduceMod, reduceCtorEq, sl1, wFacts, zA, qA, qC, vA, vC, pts_def, bools_def, wSeq, nb_tf, nb_ft, nb_tt, nb_ff]
      exact fin rfl hb
    have k1 : (0 < l.num.sign) = True := eq_true hl0
    simp only [j1, k1, ↓wPre, wPost, wFast, wCore, beq_self_eq_true, ite_true, ite_false, false_implies, true_implies, implies_true, eq_self, ne_eq, ↓reduceIte, reduceIte, Nat.reducePow, Nat.reduceLT, Nat.reduceLeDiff, Nat.reduceEqDiff, Nat.reduceAdd, Nat.reduceMul, Nat.reduceSub, Nat.reduceBEq, Nat.reduceDiv, Nat.reduceMod, reduceCtorEq, sl1, wFacts, zA, qA, qC, vA, vC, pts_def, bools_def, wSeq, nb_tf, nb_ft, nb_tt, nb_ff]
    refine call_fn clh rfl ?_
    by_cases hlh : qcmp l h ≤ 0
    rotate_left
    · have k2 : (qcmp l h ≤ 0) = False := eq_false hlh
      simp only [j1, k1, k2, ↓wPre, wPost, wFast, wCore, beq_self_eq_true, ite_true, ite_false, false_implies, true_implies, implies_true, eq_self, ne_eq, ↓reduceIte, reduceIte, Nat.reducePow, Nat.reduceLT, Nat.reduceLeDiff, Nat.reduceEqDiff, Nat.reduceAdd, Nat.reduceMul, Nat.reduceSub, Nat.reduceBEq, Nat.reduceDiv, Nat.reduceMod, reduceCtorEq, sl1, wFacts, zA, qA, qC, vA, vC, pts_def, bools_def, wSeq, nb_tf, nb_ft, nb_tt, nb_ff]
      exact fin rfl hb
    have k2 : (qcmp l h ≤ 0) = True := eq_true hlh
    simp only [j1, k1, k2, ↓wPre, wPost, wFast, wCore, beq_self_eq_true, ite_true, ite_false, false_implies, true_implies, implies_true, eq_self, ne_eq, ↓reduceIte, reduceIte, Nat.reducePow, Nat.reduceLT, Nat.reduceLeDiff, Nat.reduceEqDiff, Nat.reduceAdd, Nat.reduceMul, Nat.reduceSub, Nat.reduceBEq, Nat.reduceDiv, Nat.reduceMod, reduceCtorEq, sl1, wFacts, zA, qA, qC, vA, vC, pts_def, bools_def, wSeq, nb_tf, nb_ft, nb_tt, nb_ff]
    refine call_fn c1000 rfl ?_
    simp only [j1, k1, k2, ↓wPre, wPost, wFast, wCore, beq_self_eq_true, ite_true, ite_false, false_implies, true_implies, implies_true, eq_self, ne_eq, ↓reduceIte, reduceIte, Nat.reducePow, Nat.reduceLT, Nat.reduceLeDiff, Nat.reduceEqDiff, Nat.reduceAdd, Nat.reduceMul, Nat.reduceSub, Nat.reduceBEq, Nat.reduceDiv, Nat.reduceMod, reduceCtorEq, sl1, wFacts, zA, qA, qC, vA, vC, pts_def, bools_def, wSeq, nb_tf, nb_ft, nb_tt, nb_ff]
    refine call_fn ch rfl ?_
    simp only [j1, k1, k2, ↓wPre, wPost, wFast, wCore, beq_self_eq_true, ite_true, ite_false, false_implies, true_implies, implies_true, eq_self, ne_eq, ↓reduceIte, reduceIte, Nat.reducePow, Nat.reduceLT, Nat.reduceLeDiff, Nat.reduceEqDiff, Nat.reduceAdd, Nat.reduceMul, Nat.reduceSub, Nat.reduceBEq, Nat.reduceDiv, Nat.reduceMod, reduceCtorEq, sl1, wFacts, zA, qA, qC, vA, vC, pts_def, bools_def, wSeq, nb_tf, nb_ft, nb_tt, nb_ff]
    exact fin rfl hb
  have j1 : (qcmp t ((4 : Int) : Rat) ≤ 0) = True := eq_true ht4
  simp only [j1, ↓wPre, wPost, wFast, wCore, beq_self_eq_true, ite_true, ite_false, false_implies, true_implies, implies_true, eq_self, ne_eq, ↓reduceIte, reduceIte, Nat.reducePow, Nat.reduceLT, Nat.reduceLeDiff, Nat.reduceEqDiff, Nat.reduceAdd, Nat.reduceMul, Nat.reduceSub, Nat.reduceBEq, Nat.reduceDiv, Nat.reduceMod, reduceCtorEq, sl1, wFacts, zA, qA, qC, vA, vC, pts_def, bools_def, wSeq, nb_tf, nb_ft, nb_tt, nb_ff]
  refine call_fn cr rfl ?_
  by_cases hr4 : qcmp r ((4 : Int) : Rat) ≤ 0
  rotate_left
  · have j2 : (qcmp r ((4 : Int) : Rat) ≤ 0) = False := eq_false hr4
    have hb := bad fun hf => hr4 ((qcmp_le _ _).2 (who hf).1.2.2.2)
    simp only [j1, j2, ↓wPre, wPost, wFast, wCore, beq_self_eq_true, ite_true, ite_false, false_implies, true_implies, implies_true, eq_self, ne_eq, ↓reduceIte, reduceIte, Nat.reducePow, Nat.reduceLT, Nat.reduceLeDiff, Nat.reduceEqDiff, Nat.reduceAdd, Nat.reduceMul, Nat.reduceSub, Nat.reduceBEq, Nat.reduceDiv, Nat.reduceMod, reduceCtorEq, sl1, wFacts, zA, qA, qC, vA, vC, pts_def, bools_def, wSeq, nb_tf, nb_ft, nb_tt, nb_ff]
    refine call_fn (rsignR el) rfl ?_
    by_cases hl0 : 0 < l.num.sign
    rotate_left
    · have k1 : (0 < l.num.sign) = False := eq_false hl0
      simp only [j1, j2, k1, ↓wPre, wPost, wFast, wCore, beq_self_eq_true, ite_true, ite_false, false_implies, true_implies, implies_true, eq_self, ne_eq, ↓reduceIte, reduceIte, Nat.reducePow, Nat.reduceLT, Nat.reduceLeDiff, Nat.reduceEqDiff, Nat.reduceAdd, Nat.reduceMul, Nat.reduceSub, Nat.reduceBEq, Nat.reduceDiv, Nat.reduceMod, reduceCtorEq, sl1, wFacts, zA, qA, qC, vA, vC, pts_def, bools_def, wSeq, nb_tf, nb_ft, nb_tt, nb_ff]
      exact fin rfl hb
    have k1 : (0 < l.num.sign) = True := eq_true hl0
    simp only [j1, j2, k1, ↓wPre, wPost, wFast, wCore, beq_self_eq_true, ite_true, ite_false, false_implies, true_implies, implies_true, eq_self, ne_eq, ↓reduceIte, reduceIte, Nat.reducePow, Nat.reduceLT, Nat.reduceLeDiff, Nat.reduceEqDiff, Nat.reduceAdd, Nat.reduceMul, Nat.reduceSub, Nat.reduceBEq, Nat.reduceDiv, Nat.reduceMod, reduceCtorEq, sl1, wFacts, zA, qA, qC, vA, vC, pts_def, bools_def, wSeq, nb_tf, nb_ft, nb_tt, nb_ff]
    refine call_fn clh rfl ?_
    by_cases hlh : qcmp l h ≤ 0
    rotate_left
    · have k2 : (qcmp l h ≤ 0) = False := eq_false hlh
      simp only [j1, j2, k1, k2, ↓wPre, wPost, wFast, wCore, beq_self_eq_true, ite_true, ite_false, false_implies, true_implies, implies_true, eq_self, ne_eq, ↓reduceIte, reduceIte, Nat.reducePow, Nat.reduceLT, Nat.reduceLeDiff, Nat.reduceEqDiff, Nat.reduceAdd, Nat.reduceMul, Nat.reduceSub, Nat.reduceBEq, Nat.reduceDiv, Nat.reduceMod, reduceCtorEq, sl1, wFacts, zA, qA, qC, vA, vC, pts_def, bools_def, wSeq, nb_tf, nb_ft, nb_tt, nb_ff]
      exact fin rfl hb
    have k2 : (qcmp l h ≤ 0) = True := eq_true hlh
    simp only [j1, j2, k1, k2, ↓wPre, wPost, wFast, wCore, beq_self_eq_true, ite_true, ite_false, false_implies, true_implies, implies_true, eq_self, ne_eq, ↓reduceIte, reduceIte, Nat.reducePow, Nat.reduceLT, Nat.reduceLeDiff, Nat.reduceEqDiff, Nat.reduceAdd, Nat.reduceMul, Nat.reduceSub, Nat.reduceBEq, Nat.reduceDiv, Nat.reduceMod, reduceCtorEq, sl1, wFacts, zA, qA, qC, vA, vC, pts_def, bools_def, wSeq, nb_tf, nb_ft, nb_tt, nb_ff]
    refine call_fn c1000 rfl ?_
    simp only [j1, j2, k1, k2, ↓wPre, wPost, wFast, wCore, beq_self_eq_true, ite_true, ite_false, false_implies, true_implies, implies_true, eq_self, ne_eq, ↓reduceIte, reduceIte, Nat.reducePow, Nat.reduceLT, Nat.reduceLeDiff, Nat.reduceEqDiff, Nat.reduceAdd, Nat.reduceMul, Nat.reduceSub, Nat.reduceBEq, Nat.reduceDiv, Nat.reduceMod, reduceCtorEq, sl1, wFacts, zA, qA, qC, vA, vC, pts_def, bools_def, wSeq, nb_tf, nb_ft, nb_tt, nb_ff]
    refine call_fn ch rfl ?_
    simp only [j1, j2, k1, k2, ↓wPre, wPost, wFast, wCore, beq_self_eq_true, ite_true, ite_false, false_implies, true_implies, implies_true, eq_self, ne_eq, ↓reduceIte, reduceIte, Nat.reducePow, Nat.reduceLT, Nat.reduceLeDiff, Nat.reduceEqDiff, Nat.reduceAdd, Nat.reduceMul, Nat.reduceSub, Nat.reduceBEq, Nat.reduceDiv, Nat.reduceMod, reduceCtorEq, sl1, wFacts, zA, qA, qC, vA, vC, pts_def, bools_def, wSeq, nb_tf, nb_ft, nb_tt, nb_ff]
    exact fin rfl hb
  have j2 : (qcmp r ((4 : Int) : Rat) ≤ 0) = True := eq_true hr4
  simp only [j1, j2, ↓wPre, wPost, wFast, wCore, beq_self_eq_true, ite_true, ite_false, false_implies, true_implies, implies_true, eq_self, ne_eq, ↓reduceIte, reduceIte, Nat.reducePow, Nat.reduceLT, Nat.reduceLeDiff, Nat.reduceEqDiff, Nat.reduceAdd, Nat.reduceMul, Nat.reduceSub, Nat.reduceBEq, Nat.reduceDiv, Nat.reduceMod, reduceCtorEq, sl1, wFacts, zA, qA, qC, vA, vC, pts_def, bools_def, wSeq, nb_tf, nb_ft, nb_tt, nb_ff]
  refine call_fn (rsignR el) rfl ?_
  by_cases hl0 : 0 < l.num.sign
  rotate_left
  · have k1 : (0 < l.num.sign) = False := eq_false hl0
    simp only [j1, j2, k1, ↓wPre, wPost, wFast, wCore, beq_self_eq_true, ite_true, ite_false, false_implies, true_implies, implies_true, eq_self, ne_eq, ↓reduceIte, reduceIte, Nat.reducePow, Nat.reduceLT, Nat.reduceLeDiff, Nat.reduceEqDiff, Nat.reduceAdd, Nat.reduceMul, Nat.reduceSub, Nat.reduceBEq, Nat.reduceDiv, Nat.reduceMod, reduceCtorEq, sl1, wFacts, zA, qA, qC, vA, vC, pts_def, bools_def, wSeq, nb_tf, nb_ft, nb_tt, nb_ff]
    exact fin rfl (bad fun hf => hl0 ((sign_gt _).2 (who hf).2.1.1))
  have k1 : (0 < l.num.sign) = True := eq_true hl0
  simp only [j1, j2, k1, ↓wPre, wPost, wFast, wCore, beq_self_eq_true, ite_true, ite_false, false_implies, true_implies, implies_true, eq_self, ne_eq, ↓reduceIte, reduceIte, Nat.reducePow, Nat.reduceLT, Nat.reduceLeDiff, Nat.reduceEqDiff, Nat.reduceAdd, Nat.reduceMul, Nat.reduceSub, Nat.reduceBEq, Nat.reduceDiv, Nat.reduceMod, reduceCtorEq, sl1, wFacts, zA, qA, qC, vA, vC, pts_def, bools_def, wSeq, nb_tf, nb_ft, nb_tt, nb_ff]
  refine call_fn clh rfl ?_
  by_cases hlh : qcmp l h ≤ 0
  rotate_left
  · have k2 : (qcmp l h ≤ 0) = False := eq_false hlh
    simp only [j1, j2, k1, k2, ↓wPre, wPost, wFast, wCore, beq_self_eq_true, ite_true, ite_false, false_implies, true_implies, implies_true, eq_self, ne_eq, ↓reduceIte, reduceIte, Nat.reducePow, Nat.reduceLT, Nat.reduceLeDiff, Nat.reduceEqDiff, Nat.reduceAdd, Nat.reduceMul, Nat.reduceSub, Nat.reduceBEq, Nat.reduceDiv, Nat.reduceMod, reduceCtorEq, sl1, wFacts, zA, qA, qC, vA, vC, pts_def, bools_def, wSeq, nb_tf, nb_ft, nb_tt, nb_ff]
    exact fin rfl (bad fun hf => hlh ((qcmp_le _ _).2 (who hf).2.1.2.1))
  have k2 : (qcmp l h ≤ 0) = True := eq_true hlh
  simp only [j1, j2, k1, k2, ↓wPre, wPost, wFast, wCore, beq_self_eq_true, ite_true, ite_false, false_implies, true_implies, implies_true, eq_self, ne_eq, ↓reduceIte, reduceIte, Nat.reducePow, Nat.reduceLT, Nat.reduceLeDiff, Nat.reduceEqDiff, Nat.reduceAdd, Nat.reduceMul, Nat.reduceSub, Nat.reduceBEq, Nat.reduceDiv, Nat.reduceMod, reduceCtorEq, sl1, wFacts, zA, qA, qC, vA, vC, pts_def, bools_def, wSeq, nb_tf, nb_ft, nb_tt, nb_ff]
  refine call_fn c1000 rfl ?_
  simp only [j1, j2, k1, k2, ↓wPre, wPost, wFast, wCore, beq_self_eq_true, ite_true, ite_false, false_implies, true_implies, implies_true, eq_self, ne_eq, ↓reduceIte, reduceIte, Nat.reducePow, Nat.reduceLT, Nat.reduceLeDiff, Nat.reduceEqDiff, Nat.reduceAdd, Nat.reduceMul, Nat.reduceSub, Nat.reduceBEq, Nat.reduceDiv, Nat.reduceMod, reduceCtorEq, sl1, wFacts, zA, qA, qC, vA, vC, pts_def, bools_def, wSeq, nb_tf, nb_ft, nb_tt, nb_ff]
  refine call_fn ch rfl ?_
  by_cases hh1 : qcmp h ((1000 : Int) : Rat) ≤ 0
  rotate_left
  · have k3 : (qcmp h ((1000 : Int) : Rat) ≤ 0) = False := eq_false hh1
    simp only [j1, j2, k1, k2, k3, ↓wPre, wPost, wFast, wCore, beq_self_eq_true, ite_true, ite_false, false_implies, true_implies, implies_true, eq_self, ne_eq, ↓reduceIte, reduceIte, Nat.reducePow, Nat.reduceLT, Nat.reduceLeDiff, Nat.reduceEqDiff, Nat.reduceAdd, Nat.reduceMul, Nat.reduceSub, Nat.reduceBEq, Nat.reduceDiv, Nat.reduceMod, reduceCtorEq, sl1, wFacts, zA, qA, qC, vA, vC, pts_def, bools_def, wSeq, nb_tf, nb_ft, nb_tt, nb_ff]
    exact fin rfl (bad fun hf => hh1 ((qcmp_le _ _).2 (who hf).2.1.2.2))
  have k3 : (qcmp h ((1000 : Int) : Rat) ≤ 0) = True := eq_true hh1
  simp only [j1, j2, k1, k2, k3, ↓wPre, wPost, wFast, wCore, beq_self_eq_true, ite_true, ite_false, false_implies, true_implies, implies_true, eq_self, ne_eq, ↓reduceIte, reduceIte, Nat.reducePow, Nat.reduceLT, Nat.reduceLeDiff, Nat.reduceEqDiff, Nat.reduceAdd, Nat.reduceMul, Nat.reduceSub, Nat.reduceBEq, Nat.reduceDiv, Nat.reduceMod, reduceCtorEq, sl1, wFacts, zA, qA, qC, vA, vC, pts_def, bools_def, wSeq, nb_tf, nb_ft, nb_tt, nb_ff]
  refine call_fn (rsignR es) rfl ?_
  by_cases hs0 : s.num.sign = 0
  · have k4 : (s.num.sign = 0) = True := eq_true hs0
    simp only [k4, ↓wPre, wPost, wFast, wCore, beq_self_eq_true, ite_true, ite_false, false_implies, true_implies, implies_true, eq_self, ne_eq, ↓reduceIte, reduceIte, Nat.reducePow, Nat.reduceLT, Nat.reduceLeDiff, Nat.reduceEqDiff, Nat.reduceAdd, Nat.reduceMul, Nat.reduceSub, Nat.reduceBEq, Nat.reduceDiv, Nat.reduceMod, reduceCtorEq, sl1, wFacts, zA, qA, qC, vA, vC, pts_def, bools_def, wSeq, nb_tf, nb_ft, nb_tt, nb_ff]
    exact fin rfl (bad fun hf => by
      have := (who hf).2.2.1
      rw [(sign_eq _).1 hs0] at this
      exact Rat.lt_irrefl this)
  have k4 : (s.num.sign = 0) = False := eq_false hs0
  simp only [k4, ↓wPre, wPost, wFast, wCore, beq_self_eq_true, ite_true, ite_false, false_implies, true_implies, implies_true, eq_self, ne_eq, ↓reduceIte, reduceIte, Nat.reducePow, Nat.reduceLT, Nat.reduceLeDiff, Nat.reduceEqDiff, Nat.reduceAdd, Nat.reduceMul, Nat.reduceSub, Nat.reduceBEq, Nat.reduceDiv, Nat.reduceMod, reduceCtorEq, sl1, wFacts, zA, qA, qC, vA, vC, pts_def, bools_def, wSeq, nb_tf, nb_ft, nb_tt, nb_ff]
  have cp := pvalid_fn (rimV p.rim) (rimV_small p hro.1) (by simp [rimV]; exact hs.rim)
  refine call_fn (rim_fn p hs.rim hro.1) rfl ?_
  simp only [↓wPre, wPost, wFast, wCore, beq_self_eq_true, ite_true, ite_false, false_implies, true_implies, implies_true, eq_self, ne_eq, ↓reduceIte, reduceIte, Nat.reducePow, Nat.reduceLT, Nat.reduceLeDiff, Nat.reduceEqDiff, Nat.reduceAdd, Nat.reduceMul, Nat.reduceSub, Nat.reduceBEq, Nat.reduceDiv, Nat.reduceMod, reduceCtorEq, sl1, wFacts, zA, qA, qC, vA, vC, pts_def, bools_def, wSeq, nb_tf, nb_ft, nb_tt, nb_ff]
  refine call_fn cp rfl ?_
  by_cases hpo : polyOk (rimV p.rim)
  rotate_left
  · rw [decide_eq_false hpo]
    simp only [↓wPre, wPost, wFast, wCore, beq_self_eq_true, ite_true, ite_false, false_implies, true_implies, implies_true, eq_self, ne_eq, ↓reduceIte, reduceIte, Nat.reducePow, Nat.reduceLT, Nat.reduceLeDiff, Nat.reduceEqDiff, Nat.reduceAdd, Nat.reduceMul, Nat.reduceSub, Nat.reduceBEq, Nat.reduceDiv, Nat.reduceMod, reduceCtorEq, sl1, wFacts, zA, qA, qC, vA, vC, pts_def, bools_def, wSeq, nb_tf, nb_ft, nb_tt, nb_ff]
    exact fin rfl (bad fun hf => hpo (who hf).2.2.2)
  rw [decide_eq_true hpo]
  simp only [↓wPre, wPost, wFast, wCore, beq_self_eq_true, ite_true, ite_false, false_implies, true_implies, implies_true, eq_self, ne_eq, ↓reduceIte, reduceIte, Nat.reducePow, Nat.reduceLT, Nat.reduceLeDiff, Nat.reduceEqDiff, Nat.reduceAdd, Nat.reduceMul, Nat.reduceSub, Nat.reduceBEq, Nat.reduceDiv, Nat.reduceMod, reduceCtorEq, sl1, wFacts, zA, qA, qC, vA, vC, pts_def, bools_def, wSeq, nb_tf, nb_ft, nb_tt, nb_ff]
  refine fin rfl ?_
  rw [hV1, if_pos]
  refine ⟨⟨by omega, g2, g3⟩, ⟨t, l, h, s, r, ⟨et, el, eh, es, er⟩, ⟨?_, (qcmp_le _ _).1 ht4, ?_, (qcmp_le _ _).1 hr4⟩, ⟨(sign_gt _).1 hl0, (qcmp_le _ _).1 hlh, (qcmp_le _ _).1 hh1⟩, ?_⟩, hpo⟩
  · rw [← Rat.not_lt, ← sign_lt]; exact nt
  · rw [← Rat.not_lt, ← sign_lt]; exact nr
  · rw [← sign_gt]
    omega
end
end Go.Ab.N

namespace Go.Ab.N
open Go Go.RowKit Go.Proofs
noncomputable section
set_option maxRecDepth 10000
set_option maxHeartbeats 4000000
set_option linter.unusedSimpArgs false
set_option linter.unusedVariables false
open Classical

/-! ### Pieces that are the same -/
theorem PV.eq_iff (a b : PV) : a = b ↔ (a.tol = b.tol ∧ a.light = b.light ∧ a.heavy = b.heavy ∧ a.strength = b.strength ∧ a.rough = b.rough) ∧ a.id = b.id ∧ a.home = b.home ∧ a.rim = b.rim ∧ a.worn = b.worn ∧ a.marks = b.marks := by
  constructor
  · rintro rfl; exact ⟨⟨rfl, rfl, rfl, rfl, rfl⟩, rfl, rfl, rfl, rfl, rfl⟩
  · cases a; cases b
    rintro ⟨⟨h1, h2, h3, h4, h5⟩, h6, h7, h8, h9, h10⟩
    simp only at *
    subst h1; subst h2; subst h3; subst h4; subst h5; subst h6; subst h7; subst h8; subst h9; subst h10
    rfl
theorem psame_fn (a b : PV) (ha : a.small) (hb : b.small) : Fn Try.prog 25 [pvA a, pvA b] (.bool (decide (a = b))) := by
  obtain ⟨V, hV⟩ : ∃ V, V = decide (a = b) := ⟨_, rfl⟩
  have fin : ∀ {s : AS} {v : Bool}, s.get 4 = .bool v → v = V → RetOk (envP Try.prog Try.f25 [1, 20000002, 20000003] [] (.bool V)) s := fun h e => ret1E rfl h (settled_bool _) (by rw [e])
  have ca := numbers_fn a
  have cb := numbers_fn b
  rw [← hV]
  refine Fn.intro (fn := Try.f25) Try.call25 Try.func25 rfl mixed 8 [12] [1, 20000002, 20000003] [] (by kernel_rfl) (Nat.le_of_ble_eq_true rfl) (by simp [settled_pvA]) (vc_soundN 1000 ?_)
  simp only [AS.start, pvA, pvC, ↓wPre, wPost, wFast, wCore, beq_self_eq_true, ite_true, ite_false, false_implies, true_implies, implies_true, eq_self, ne_eq, ↓reduceIte, reduceIte, Nat.reducePow, Nat.reduceLT, Nat.reduceLeDiff, Nat.reduceEqDiff, Nat.reduceAdd, Nat.reduceMul, Nat.reduceSub, Nat.reduceBEq, Nat.reduceDiv, Nat.reduceMod, reduceCtorEq, sl1, wFacts, zA, qA, qC, vA, vC, pts_def, bools_def, wSeq, nb_tf, nb_ft, nb_tt, nb_ff]
  refine call_fn ca rfl ?_
  simp only [numC, ↓wPre, wPost, wFast, wCore, beq_self_eq_true, ite_true, ite_false, false_implies, true_implies, implies_true, eq_self, ne_eq, ↓reduceIte, reduceIte, Nat.reducePow, Nat.reduceLT, Nat.reduceLeDiff, Nat.reduceEqDiff, Nat.reduceAdd, Nat.reduceMul, Nat.reduceSub, Nat.reduceBEq, Nat.reduceDiv, Nat.reduceMod, reduceCtorEq, sl1, wFacts, zA, qA, qC, vA, vC, pts_def, bools_def, wSeq, nb_tf, nb_ft, nb_tt, nb_ff]
  refine call_fn cb rfl ?_
  simp only [numC, ↓wPre, wPost, wFast, wCore, beq_self_eq_true, ite_true, ite_false, false_implies, true_implies, implies_true, eq_self, ne_eq, ↓reduceIte, reduceIte, Nat.reducePow, Nat.reduceLT, Nat.reduceLeDiff, Nat.reduceEqDiff, Nat.reduceAdd, Nat.reduceMul, Nat.reduceSub, Nat.reduceBEq, Nat.reduceDiv, Nat.reduceMod, reduceCtorEq, sl1, wFacts, zA, qA, qC, vA, vC, pts_def, bools_def, wSeq, nb_tf, nb_ft, nb_tt, nb_ff]
  refine run_loop (fun i : Nat => ⟨8, [12], [.any, .any, .ref 0 0 0, .ref 1 0 0, .bool false, .ref 2 0 0, .ref 3 0 0, .any], [(12, I i)], [.con 0 25 (ofL (pvC a)), .con 0 25 (ofL (pvC b)), .row 0 20 (ofL (numC a)), .row 0 20 (ofL (numC b))]⟩) (fun i => i ≤ 5 ∧ ∀ j, j < i → a.num j = b.num j) (fun i => 5 - i) 0 ⟨by omega, by omega⟩
    (sub_mk rfl (by simp [subL, I]) (by simp [subT, look, I]) (by simp [pvC, numC, pts_def, bools_def, ints_def, I])) ?_
  rintro i ⟨hi, hok⟩ next
  have sz : ∀ p : PV, p.small → ∀ j, (p.num j).sz < 4611686018427387904 := fun p hs j => by
    have := hs.tol; have := hs.light; have := hs.heavy; have := hs.strength; have := hs.rough
    match j with
    | 0 => show p.tol.sz < _; omega
    | 1 => show p.light.sz < _; omega
    | 2 => show p.heavy.sz < _; omega
    | 3 => show p.strength.sz < _; omega
    | j + 4 => show p.rough.sz < _; omega
  have w0 : IntKind.i64.wrap (0 + 1) = 1 := by decide
  have w1 : IntKind.i64.wrap (1 + 1) = 2 := by decide
  have w2 : IntKind.i64.wrap (2 + 1) = 3 := by decide
  have w3 : IntKind.i64.wrap (3 + 1) = 4 := by decide
  have w4 : IntKind.i64.wrap (4 + 1) = 5 := by decide
  have e0 : ((0 : Nat) : Int) = 0 := rfl
  have e1 : ((1 : Nat) : Int) = 1 := rfl
  have e2 : ((2 : Nat) : Int) = 2 := rfl
  have e3 : ((3 : Nat) : Int) = 3 := rfl
  have e4 : ((4 : Nat) : Int) = 4 := rfl
  have e5 : ((5 : Nat) : Int) = 5 := rfl
  have t1 : (1 : Int).toNat = 1 := rfl
  have t2 : (2 : Int).toNat = 2 := rfl
  have t3 : (3 : Int).toNat = 3 := rfl
  have t4 : (4 : Int).toNat = 4 := rfl
  by_cases hi5 : i < 5
  · have c1 := rsame_fn (a.num i) (b.num i) (sz a ha i) (sz b hb i)
    have hcase : i = 0 ∨ i = 1 ∨ i = 2 ∨ i = 3 ∨ i = 4 := by omega
    by_cases hv : a.num i = b.num i
    rotate_left
    · rw [decide_eq_false hv] at c1
      have hb : false = V := by
        rw [hV, decide_eq_false]
        intro e
        exact hv (by rw [e])
      rcases hcase with rfl | rfl | rfl | rfl | rfl
      all_goals
        refine vc_soundN 1000 ?_
        simp only [pvC, numC, e0, e1, e2, e3, e4, e5, t1, t2, t3, t4, w0, w1, w2, w3, w4, Int.reduceLT, Int.reduceLE, Int.toNat_zero, ↓wPre, wPost, wFast, wCore, beq_self_eq_true, ite_true, ite_false, false_implies, true_implies, implies_true, eq_self, ne_eq, ↓reduceIte, reduceIte, Nat.reducePow, Nat.reduceLT, Nat.reduceLeDiff, Nat.reduceEqDiff, Nat.reduceAdd, Nat.reduceMul, Nat.reduceSub, Nat.reduceBEq, Nat.reduceDiv, Nat.reduceMod, reduceCtorEq, sl1, wFacts, zA, qA, qC, vA, vC, pts_def, bools_def, wSeq, nb_tf, nb_ft, nb_tt, nb_ff]
        refine call_fn c1 rfl ?_
        simp only [↓wPre, wPost, wFast, wCore, beq_self_eq_true, ite_true, ite_false, false_implies, true_implies, implies_true, eq_self, ne_eq, ↓reduceIte, reduceIte, Nat.reducePow, Nat.reduceLT, Nat.reduceLeDiff, Nat.reduceEqDiff, Nat.reduceAdd, Nat.reduceMul, Nat.reduceSub, Nat.reduceBEq, Nat.reduceDiv, Nat.reduceMod, reduceCtorEq, sl1, wFacts, zA, qA, qC, vA, vC, pts_def, bools_def, wSeq, nb_tf, nb_ft, nb_tt, nb_ff]
        exact fin rfl hb
    rw [decide_eq_true hv] at c1
    have nx := next (i + 1)
    rcases hcase with rfl | rfl | rfl | rfl | rfl
    all_goals
      refine vc_soundN 1000 ?_
      simp only [pvC, numC, e0, e1, e2, e3, e4, e5, t1, t2, t3, t4, w0, w1, w2, w3, w4, Int.reduceLT, Int.reduceLE, Int.toNat_zero, ↓wPre, wPost, wFast, wCore, beq_self_eq_true, ite_true, ite_false, false_implies, true_implies, implies_true, eq_self, ne_eq, ↓reduceIte, reduceIte, Nat.reducePow, Nat.reduceLT, Nat.reduceLeDiff, Nat.reduceEqDiff, Nat.reduceAdd, Nat.reduceMul, Nat.reduceSub, Nat.reduceBEq, Nat.reduceDiv, Nat.reduceMod, reduceCtorEq, sl1, wFacts, zA, qA, qC, vA, vC, pts_def, bools_def, wSeq, nb_tf, nb_ft, nb_tt, nb_ff]
      refine call_fn c1 rfl ?_
      simp only [w0, w1, w2, w3, w4, ↓wPre, wPost, wFast, wCore, beq_self_eq_true, ite_true, ite_false, false_implies, true_implies, implies_true, eq_self, ne_eq, ↓reduceIte, reduceIte, Nat.reducePow, Nat.reduceLT, Nat.reduceLeDiff, Nat.reduceEqDiff, Nat.reduceAdd, Nat.reduceMul, Nat.reduceSub, Nat.reduceBEq, Nat.reduceDiv, Nat.reduceMod, reduceCtorEq, sl1, wFacts, zA, qA, qC, vA, vC, pts_def, bools_def, wSeq, nb_tf, nb_ft, nb_tt, nb_ff]
      refine nx _ ⟨by omega, fun j hj => ?_⟩ (by omega) (sub_mk rfl (by simp [subL, I]) (by simp [subT, look, I]) (by simp [pvC, numC, pts_def, bools_def, ints_def, I]))
      rcases Nat.lt_succ_iff_lt_or_eq.1 hj with h | h
      · exact hok j h
      · rw [h]; exact hv
  obtain rfl : i = 5 := by omega
  have hnum : a.tol = b.tol ∧ a.light = b.light ∧ a.heavy = b.heavy ∧ a.strength = b.strength ∧ a.rough = b.rough := ⟨hok 0 (by omega), hok 1 (by omega), hok 2 (by omega), hok 3 (by omega), hok 4 (by omega)⟩
  have hV' : V = decide (a.id = b.id ∧ a.home = b.home ∧ a.rim = b.rim ∧ a.worn = b.worn ∧ a.marks = b.marks) := by
    rw [hV, decide_eq_decide, PV.eq_iff]
    exact ⟨fun h => h.2, fun h => ⟨hnum, h⟩⟩
  have no : ∀ {q : Prop}, (a.id = b.id ∧ a.home = b.home ∧ a.rim = b.rim ∧ a.worn = b.worn ∧ a.marks = b.marks → q) → ¬ q → false = V := fun h hq => by rw [hV', decide_eq_false fun hh => hq (h hh)]
  refine vc_soundN 1000 ?_
  by_cases h1 : a.id = b.id
  rotate_left
  · have f1 : (a.id = b.id) = False := eq_false h1
    simp only [pvC, numC, e5, f1, Int.lt_irrefl, ↓wPre, wPost, wFast, wCore, beq_self_eq_true, ite_true, ite_false, false_implies, true_implies, implies_true, eq_self, ne_eq, ↓reduceIte, reduceIte, Nat.reducePow, Nat.reduceLT, Nat.reduceLeDiff, Nat.reduceEqDiff, Nat.reduceAdd, Nat.reduceMul, Nat.reduceSub, Nat.reduceBEq, Nat.reduceDiv, Nat.reduceMod, reduceCtorEq, sl1, wFacts, zA, qA, qC, vA, vC, pts_def, bools_def, wSeq, nb_tf, nb_ft, nb_tt, nb_ff]
    exact fin rfl (no (fun h => h.1) h1)
  have f1 : (a.id = b.id) = True := eq_true h1
  by_cases h2 : a.home = b.home
  rotate_left
  · have f2 : (a.home = b.home) = False := eq_false h2
    simp only [pvC, numC, e5, f1, f2, Int.lt_irrefl, ↓wPre, wPost, wFast, wCore, beq_self_eq_true, ite_true, ite_false, false_implies, true_implies, implies_true, eq_self, ne_eq, ↓reduceIte, reduceIte, Nat.reducePow, Nat.reduceLT, Nat.reduceLeDiff, Nat.reduceEqDiff, Nat.reduceAdd, Nat.reduceMul, Nat.reduceSub, Nat.reduceBEq, Nat.reduceDiv, Nat.reduceMod, reduceCtorEq, sl1, wFacts, zA, qA, qC, vA, vC, pts_def, bools_def, wSeq, nb_tf, nb_ft, nb_tt, nb_ff]
    exact fin rfl (no (fun h => h.2.1) h2)
  have f2 : (a.home = b.home) = True := eq_true h2
  simp only [pvC, numC, e5, f1, f2, Int.lt_irrefl, ↓wPre, wPost, wFast, wCore, beq_self_eq_true, ite_true, ite_false, false_implies, true_implies, implies_true, eq_self, ne_eq, ↓reduceIte, reduceIte, Nat.reducePow, Nat.reduceLT, Nat.reduceLeDiff, Nat.reduceEqDiff, Nat.reduceAdd, Nat.reduceMul, Nat.reduceSub, Nat.reduceBEq, Nat.reduceDiv, Nat.reduceMod, reduceCtorEq, sl1, wFacts, zA, qA, qC, vA, vC, pts_def, bools_def, wSeq, nb_tf, nb_ft, nb_tt, nb_ff]
  have b1 := ha.rim; have b2 := hb.rim; have b3 := ha.worn; have b4 := hb.worn; have b5 := ha.marks; have b6 := hb.marks
  refine call_fn (eqPts_fn a.rim b.rim (by omega) (by omega)) rfl ?_
  by_cases h3 : a.rim = b.rim
  rotate_left
  · rw [decide_eq_false h3]
    simp only [↓wPre, wPost, wFast, wCore, beq_self_eq_true, ite_true, ite_false, false_implies, true_implies, implies_true, eq_self, ne_eq, ↓reduceIte, reduceIte, Nat.reducePow, Nat.reduceLT, Nat.reduceLeDiff, Nat.reduceEqDiff, Nat.reduceAdd, Nat.reduceMul, Nat.reduceSub, Nat.reduceBEq, Nat.reduceDiv, Nat.reduceMod, reduceCtorEq, sl1, wFacts, zA, qA, qC, vA, vC, pts_def, bools_def, wSeq, nb_tf, nb_ft, nb_tt, nb_ff]
    exact fin rfl (no (fun h => h.2.2.1) h3)
  rw [decide_eq_true h3]
  simp only [↓wPre, wPost, wFast, wCore, beq_self_eq_true, ite_true, ite_false, false_implies, true_implies, implies_true, eq_self, ne_eq, ↓reduceIte, reduceIte, Nat.reducePow, Nat.reduceLT, Nat.reduceLeDiff, Nat.reduceEqDiff, Nat.reduceAdd, Nat.reduceMul, Nat.reduceSub, Nat.reduceBEq, Nat.reduceDiv, Nat.reduceMod, reduceCtorEq, sl1, wFacts, zA, qA, qC, vA, vC, pts_def, bools_def, wSeq, nb_tf, nb_ft, nb_tt, nb_ff]
  refine call_fn (eqBools_fn a.worn b.worn (by omega) (by omega)) rfl ?_
  by_cases h4 : a.worn = b.worn
  rotate_left
  · rw [decide_eq_false h4]
    simp only [↓wPre, wPost, wFast, wCore, beq_self_eq_true, ite_true, ite_false, false_implies, true_implies, implies_true, eq_self, ne_eq, ↓reduceIte, reduceIte, Nat.reducePow, Nat.reduceLT, Nat.reduceLeDiff, Nat.reduceEqDiff, Nat.reduceAdd, Nat.reduceMul, Nat.reduceSub, Nat.reduceBEq, Nat.reduceDiv, Nat.reduceMod, reduceCtorEq, sl1, wFacts, zA, qA, qC, vA, vC, pts_def, bools_def, wSeq, nb_tf, nb_ft, nb_tt, nb_ff]
    exact fin rfl (no (fun h => h.2.2.2.1) h4)
  rw [decide_eq_true h4]
  simp only [↓wPre, wPost, wFast, wCore, beq_self_eq_true, ite_true, ite_false, false_implies, true_implies, implies_true, eq_self, ne_eq, ↓reduceIte, reduceIte, Nat.reducePow, Nat.reduceLT, Nat.reduceLeDiff, Nat.reduceEqDiff, Nat.reduceAdd, Nat.reduceMul, Nat.reduceSub, Nat.reduceBEq, Nat.reduceDiv, Nat.reduceMod, reduceCtorEq, sl1, wFacts, zA, qA, qC, vA, vC, pts_def, bools_def, wSeq, nb_tf, nb_ft, nb_tt, nb_ff]
  refine call_fn (eqInts_fn a.marks b.marks (by omega) (by omega)) rfl ?_
  simp only [↓wPre, wPost, wFast, wCore, beq_self_eq_true, ite_true, ite_false, false_implies, true_implies, implies_true, eq_self, ne_eq, ↓reduceIte, reduceIte, Nat.reducePow, Nat.reduceLT, Nat.reduceLeDiff, Nat.reduceEqDiff, Nat.reduceAdd, Nat.reduceMul, Nat.reduceSub, Nat.reduceBEq, Nat.reduceDiv, Nat.reduceMod, reduceCtorEq, sl1, wFacts, zA, qA, qC, vA, vC, pts_def, bools_def, wSeq, nb_tf, nb_ft, nb_tt, nb_ff]
  refine fin rfl ?_
  rw [hV', decide_eq_decide]
  exact ⟨fun h => ⟨h1, h2, h3, h4, h⟩, fun h => h.2.2.2.2⟩
end
end Go.Ab.N

namespace Go.Ab.N
open Go Go.RowKit Go.Proofs
noncomputable section
set_option maxRecDepth 10000
set_option maxHeartbeats 4000000
set_option linter.unusedSimpArgs false
set_option linter.unusedVariables false
open Classical

/-! ### Casts -/
def likeP (p c : PV) : PV := ⟨p.id, p.home, c.rim, c.worn, c.marks, p.tol, c.light, c.heavy, c.strength, c.rough⟩
theorem likeP_small {p c : PV} (hp : p.small) (hc : c.small) : (likeP p c).small := ⟨hc.rim, hc.worn, hc.marks, hp.tol, hc.light, hc.heavy, hc.strength, hc.rough⟩
theorem is_fn (p c : PV) (hp : p.small) (hc : c.small) {a b : Rat} (ea : p.tol = RQ.of a) (eb : c.tol = RQ.of b) : Fn Try.prog 14 [pvA p, pvA c] (.bool (decide (p = likeP p c ∧ a ≤ b))) := by
  have c1 := psame_fn p (likeP p c) hp (likeP_small hp hc)
  have c2 := rcmpR eb ea hc.tol hp.tol
  obtain ⟨V, hV⟩ : ∃ V, V = decide (p = likeP p c ∧ a ≤ b) := ⟨_, rfl⟩
  have fin : ∀ {s : AS} {v : Bool}, s.get 4 = .bool v → v = V → RetOk (envP Try.prog Try.f14 [2, 30000002] [] (.bool V)) s := fun h e => ret1E rfl h (settled_bool _) (by rw [e])
  rw [← hV]
  refine Fn.intro (fn := Try.f14) Try.call14 Try.func14 rfl mixed 6 [] [2, 30000002] [] (by kernel_rfl) (Nat.le_of_ble_eq_true rfl) (by simp [settled_pvA]) (vc_soundN 1000 ?_)
  simp only [AS.start, pvA, pvC, ↓wPre, wPost, wFast, wCore, beq_self_eq_true, ite_true, ite_false, false_implies, true_implies, implies_true, eq_self, ne_eq, ↓reduceIte, reduceIte, Nat.reducePow, Nat.reduceLT, Nat.reduceLeDiff, Nat.reduceEqDiff, Nat.reduceAdd, Nat.reduceMul, Nat.reduceSub, Nat.reduceBEq, Nat.reduceDiv, Nat.reduceMod, reduceCtorEq, sl1, wFacts, zA, qA, qC, vA, vC, pts_def, bools_def, wSeq, nb_tf, nb_ft, nb_tt, nb_ff]
  refine call_fn c1 rfl ?_
  by_cases h : p = likeP p c
  rotate_left
  · rw [decide_eq_false h]
    simp only [↓wPre, wPost, wFast, wCore, beq_self_eq_true, ite_true, ite_false, false_implies, true_implies, implies_true, eq_self, ne_eq, ↓reduceIte, reduceIte, Nat.reducePow, Nat.reduceLT, Nat.reduceLeDiff, Nat.reduceEqDiff, Nat.reduceAdd, Nat.reduceMul, Nat.reduceSub, Nat.reduceBEq, Nat.reduceDiv, Nat.reduceMod, reduceCtorEq, sl1, wFacts, zA, qA, qC, vA, vC, pts_def, bools_def, wSeq, nb_tf, nb_ft, nb_tt, nb_ff]
    exact fin rfl (by rw [hV, decide_eq_false fun hh => h hh.1])
  rw [decide_eq_true h]
  simp only [↓wPre, wPost, wFast, wCore, beq_self_eq_true, ite_true, ite_false, false_implies, true_implies, implies_true, eq_self, ne_eq, ↓reduceIte, reduceIte, Nat.reducePow, Nat.reduceLT, Nat.reduceLeDiff, Nat.reduceEqDiff, Nat.reduceAdd, Nat.reduceMul, Nat.reduceSub, Nat.reduceBEq, Nat.reduceDiv, Nat.reduceMod, reduceCtorEq, sl1, wFacts, zA, qA, qC, vA, vC, pts_def, bools_def, wSeq, nb_tf, nb_ft, nb_tt, nb_ff]
  refine call_fn c2 rfl ?_
  simp only [↓wPre, wPost, wFast, wCore, beq_self_eq_true, ite_true, ite_false, false_implies, true_implies, implies_true, eq_self, ne_eq, ↓reduceIte, reduceIte, Nat.reducePow, Nat.reduceLT, Nat.reduceLeDiff, Nat.reduceEqDiff, Nat.reduceAdd, Nat.reduceMul, Nat.reduceSub, Nat.reduceBEq, Nat.reduceDiv, Nat.reduceMod, reduceCtorEq, sl1, wFacts, zA, qA, qC, vA, vC, pts_def, bools_def, wSeq, nb_tf, nb_ft, nb_tt, nb_ff]
  refine fin rfl ?_
  rw [hV, decide_eq_decide]
  exact ⟨fun hh => ⟨h, (qcmp_ge _ _).1 hh⟩, fun hh => (qcmp_ge _ _).2 hh.2⟩
def zeroQ : RQ := ⟨false, [], false, []⟩
def zeroP : PV := ⟨0, 0, [], [], [], zeroQ, zeroQ, zeroQ, zeroQ, zeroQ⟩
theorem weak_em {f g : Nat → AV} {t : Bool} : Weak (.sl 0 0 f t) (.sl 0 0 g false) := weak_slW rfl (Nat.le_refl _) fun j hj => absurd hj (Nat.not_lt_zero j)
def zeroL : List AV := [I 0, I 0, .sl 0 0 (fun _ => .any) false, .sl 0 0 (fun _ => .any) false, .sl 0 0 (fun _ => .any) false, .bool false, .sl 0 0 (fun _ => .any) false, .bool false, .sl 0 0 (fun _ => .any) false, .bool false, .sl 0 0 (fun _ => .any) false, .bool false, .sl 0 0 (fun _ => .any) false,
  .bool false, .sl 0 0 (fun _ => .any) false, .bool false, .sl 0 0 (fun _ => .any) false, .bool false, .sl 0 0 (fun _ => .any) false, .bool false, .sl 0 0 (fun _ => .any) false, .bool false, .sl 0 0 (fun _ => .any) false, .bool false, .sl 0 0 (fun _ => .any) false]
theorem weak_zero : WeakL zeroL (pvC zeroP) :=
  ⟨Weak.rfl' _, Weak.rfl' _, weak_em, weak_em, weak_em, Weak.rfl' _, weak_em, Weak.rfl' _, weak_em, Weak.rfl' _, weak_em, Weak.rfl' _, weak_em, Weak.rfl' _, weak_em, Weak.rfl' _, weak_em, Weak.rfl' _, weak_em, Weak.rfl' _, weak_em, Weak.rfl' _, weak_em, Weak.rfl' _, weak_em, trivial⟩
def castC (p : PV) (id home : Int) (t : Rat) : PV := ⟨id, home, p.rim, p.worn, p.marks, RQ.of t, p.light, p.heavy, p.strength, p.rough⟩
/-- A cast, as the program makes it. -/
def castOf (p : PV) (id home : Int) (a : Rat) (x : RQ) : PV × Int :=
  if h : ∃ q : Rat, x = RQ.of q ∧ 0 ≤ q then
    let c := castC p id home (a + h.choose)
    if pieceErr c = 0 then (c, 0) else (zeroP, 1)
  else (zeroP, 1)
theorem castof_fn (p : PV) (hp : p.small) (id home : Int) (x : RQ) (hx : x.sz ≤ 100000) {a : Rat} (ea : p.tol = RQ.of a) (ha : qb a ≤ 100000) :
    Fn Try.prog 11 [pvA p, I id, I home, x.A] (.tup [pvA (castOf p id home a x).1, I (castOf p id home a x).2]) := by
  obtain ⟨R, hR⟩ : ∃ R, R = castOf p id home a x := ⟨_, rfl⟩
  rw [← hR]
  have hbad : (¬ ∃ q : Rat, x = RQ.of q ∧ 0 ≤ q) → R = (zeroP, 1) := fun h => by
    rw [hR]; unfold castOf; rw [dif_neg h]
  have zret : ∀ {s : AS} {ver id' : Nat}, s.get 8 = .ref id' ver 0 → s.h[id']? = some (.row ver 25 (ofL zeroL)) → s.get 9 = I 1 → R = (zeroP, 1) → RetOk (envP Try.prog Try.f11 [5, 60000004] [] (.tup [pvA R.1, I R.2])) s := fun h1 h2 h3 h4 => by
    subst h4
    exact retRef2 rfl (resAt_ref ldk46 h1 h2 rfl) (by unfold resAt; rfl) (sees_of_weak (settled_pvA _) (weak_agg weak_zero)) (by rw [h3]; exact (settled_I _).sees _)
  have c1 := rvalid_fn x (by omega)
  refine Fn.intro (fn := Try.f11) Try.call11 Try.func11 rfl mixed 11 [] [5, 60000004] [] (by kernel_rfl) (Nat.le_of_ble_eq_true rfl) (by simp [settled_pvA, settled_RQ, settled_I]) (vc_soundN 1000 ?_)
  simp only [AS.start, pvA, pvC, RQ.A, RQ.L, ↓wPre, wPost, wFast, wCore, beq_self_eq_true, ite_true, ite_false, false_implies, true_implies, implies_true, eq_self, ne_eq, ↓reduceIte, reduceIte, Nat.reducePow, Nat.reduceLT, Nat.reduceLeDiff, Nat.reduceEqDiff, Nat.reduceAdd, Nat.reduceMul, Nat.reduceSub, Nat.reduceBEq, Nat.reduceDiv, Nat.reduceMod, reduceCtorEq, sl1, wFacts, zA, qA, qC, vA, vC, pts_def, bools_def, wSeq, nb_tf, nb_ft, nb_tt, nb_ff]
  refine call_fn c1 rfl ?_
  by_cases hv : x.ok
  rotate_left
  · rw [decide_eq_false hv]
    simp only [↓wPre, wPost, wFast, wCore, beq_self_eq_true, ite_true, ite_false, false_implies, true_implies, implies_true, eq_self, ne_eq, ↓reduceIte, reduceIte, Nat.reducePow, Nat.reduceLT, Nat.reduceLeDiff, Nat.reduceEqDiff, Nat.reduceAdd, Nat.reduceMul, Nat.reduceSub, Nat.reduceBEq, Nat.reduceDiv, Nat.reduceMod, reduceCtorEq, sl1, wFacts, zA, qA, qC, vA, vC, pts_def, bools_def, wSeq, nb_tf, nb_ft, nb_tt, nb_ff]
    exact zret rfl rfl rfl (hbad fun ⟨q, hq, _⟩ => hv ⟨q, hq⟩)
  obtain ⟨q, hq⟩ := hv
  rw [decide_eq_true ⟨q, hq⟩]
  have c2 := rsignR hq
  simp only [↓wPre, wPost, wFast, wCore, beq_self_eq_true, ite_true, ite_false, false_implies, true_implies, implies_true, eq_self, ne_eq, ↓reduceIte, reduceIte, Nat.reducePow, Nat.reduceLT, Nat.reduceLeDiff, Nat.reduceEqDiff, Nat.reduceAdd, Nat.reduceMul, Nat.reduceSub, Nat.reduceBEq, Nat.reduceDiv, Nat.reduceMod, reduceCtorEq, sl1, wFacts, zA, qA, qC, vA, vC, pts_def, bools_def, wSeq, nb_tf, nb_ft, nb_tt, nb_ff]
  refine call_fn c2 rfl ?_
  by_cases hn : q.num.sign < 0
  · have f1 : (q.num.sign < 0) = True := eq_true hn
    simp only [f1, ↓wPre, wPost, wFast, wCore, beq_self_eq_true, ite_true, ite_false, false_implies, true_implies, implies_true, eq_self, ne_eq, ↓reduceIte, reduceIte, Nat.reducePow, Nat.reduceLT, Nat.reduceLeDiff, Nat.reduceEqDiff, Nat.reduceAdd, Nat.reduceMul, Nat.reduceSub, Nat.reduceBEq, Nat.reduceDiv, Nat.reduceMod, reduceCtorEq, sl1, wFacts, zA, qA, qC, vA, vC, pts_def, bools_def, wSeq, nb_tf, nb_ft, nb_tt, nb_ff]
    refine zret rfl rfl rfl (hbad fun ⟨q', hq', h'⟩ => ?_)
    have := RQ.of_inj (hq'.symm.trans hq); subst this
    exact Rat.not_lt.2 h' ((sign_lt _).1 hn)
  have f1 : (q.num.sign < 0) = False := eq_false hn
  simp only [f1, ↓wPre, wPost, wFast, wCore, beq_self_eq_true, ite_true, ite_false, false_implies, true_implies, implies_true, eq_self, ne_eq, ↓reduceIte, reduceIte, Nat.reducePow, Nat.reduceLT, Nat.reduceLeDiff, Nat.reduceEqDiff, Nat.reduceAdd, Nat.reduceMul, Nat.reduceSub, Nat.reduceBEq, Nat.reduceDiv, Nat.reduceMod, reduceCtorEq, sl1, wFacts, zA, qA, qC, vA, vC, pts_def, bools_def, wSeq, nb_tf, nb_ft, nb_tt, nb_ff]
  have hsq : qb q ≤ 100003 := by
    have := qb_of_sz q
    rw [← hq] at this; omega
  have c3 := radd_fn a q (by unfold rm; omega) (by unfold rm; omega)
  have c3' : Fn Try.prog 17 [p.tol.A, x.A] (qA (a + q)) := by rw [ea, hq]; exact c3
  refine call_fn c3' rfl ?_
  simp only [↓wPre, wPost, wFast, wCore, beq_self_eq_true, ite_true, ite_false, false_implies, true_implies, implies_true, eq_self, ne_eq, ↓reduceIte, reduceIte, Nat.reducePow, Nat.reduceLT, Nat.reduceLeDiff, Nat.reduceEqDiff, Nat.reduceAdd, Nat.reduceMul, Nat.reduceSub, Nat.reduceBEq, Nat.reduceDiv, Nat.reduceMod, reduceCtorEq, sl1, wFacts, zA, qA, qC, vA, vC, pts_def, bools_def, wSeq, nb_tf, nb_ft, nb_tt, nb_ff]
  have b1 := hp.rim; have b2 := hp.worn; have b3 := hp.marks
  refine call_fn (clonep_fn p.rim b1) rfl ?_
  simp only [↓wPre, wPost, wFast, wCore, beq_self_eq_true, ite_true, ite_false, false_implies, true_implies, implies_true, eq_self, ne_eq, ↓reduceIte, reduceIte, Nat.reducePow, Nat.reduceLT, Nat.reduceLeDiff, Nat.reduceEqDiff, Nat.reduceAdd, Nat.reduceMul, Nat.reduceSub, Nat.reduceBEq, Nat.reduceDiv, Nat.reduceMod, reduceCtorEq, sl1, wFacts, zA, qA, qC, vA, vC, pts_def, bools_def, wSeq, nb_tf, nb_ft, nb_tt, nb_ff]
  refine call_fn (cloneb_fn p.worn b2) rfl ?_
  simp only [↓wPre, wPost, wFast, wCore, beq_self_eq_true, ite_true, ite_false, false_implies, true_implies, implies_true, eq_self, ne_eq, ↓reduceIte, reduceIte, Nat.reducePow, Nat.reduceLT, Nat.reduceLeDiff, Nat.reduceEqDiff, Nat.reduceAdd, Nat.reduceMul, Nat.reduceSub, Nat.reduceBEq, Nat.reduceDiv, Nat.reduceMod, reduceCtorEq, sl1, wFacts, zA, qA, qC, vA, vC, pts_def, bools_def, wSeq, nb_tf, nb_ft, nb_tt, nb_ff]
  refine call_fn (clonei_fn p.marks b3) rfl ?_
  simp only [↓wPre, wPost, wFast, wCore, beq_self_eq_true, ite_true, ite_false, false_implies, true_implies, implies_true, eq_self, ne_eq, ↓reduceIte, reduceIte, Nat.reducePow, Nat.reduceLT, Nat.reduceLeDiff, Nat.reduceEqDiff, Nat.reduceAdd, Nat.reduceMul, Nat.reduceSub, Nat.reduceBEq, Nat.reduceDiv, Nat.reduceMod, reduceCtorEq, sl1, wFacts, zA, qA, qC, vA, vC, pts_def, bools_def, wSeq, nb_tf, nb_ft, nb_tt, nb_ff]
  have hRc : R = if pieceErr (castC p id home (a + q)) = 0 then (castC p id home (a + q), 0) else (zeroP, 1) := by
    rw [hR]
    have hex : ∃ q : Rat, x = RQ.of q ∧ 0 ≤ q := ⟨q, hq, by rw [← Rat.not_lt, ← sign_lt]; exact hn⟩
    unfold castOf
    rw [dif_pos hex]
    have : hex.choose = q := RQ.of_inj (hex.choose_spec.1.symm.trans hq)
    rw [this]
  have hsm : (castC p id home (a + q)).small := ⟨b1, b2, b3, by
    have h1 := RQ.of_sz (a + q)
    have h2 := qb_add a q
    show (RQ.of (a + q)).sz ≤ _
    omega, hp.light, hp.heavy, hp.strength, hp.rough⟩
  refine call_fn (piece_valid_fn (castC p id home (a + q)) hsm) rfl ?_
  by_cases he : pieceErr (castC p id home (a + q)) = 0
  rotate_left
  · have f2 : (pieceErr (castC p id home (a + q)) = 0) = False := eq_false he
    simp only [f2, ↓wPre, wPost, wFast, wCore, beq_self_eq_true, ite_true, ite_false, false_implies, true_implies, implies_true, eq_self, ne_eq, ↓reduceIte, reduceIte, Nat.reducePow, Nat.reduceLT, Nat.reduceLeDiff, Nat.reduceEqDiff, Nat.reduceAdd, Nat.reduceMul, Nat.reduceSub, Nat.reduceBEq, Nat.reduceDiv, Nat.reduceMod, reduceCtorEq, sl1, wFacts, zA, qA, qC, vA, vC, pts_def, bools_def, wSeq, nb_tf, nb_ft, nb_tt, nb_ff]
    exact zret rfl rfl rfl (by rw [hRc, if_neg he])
  have f2 : (pieceErr (castC p id home (a + q)) = 0) = True := eq_true he
  simp only [f2, ↓wPre, wPost, wFast, wCore, beq_self_eq_true, ite_true, ite_false, false_implies, true_implies, implies_true, eq_self, ne_eq, ↓reduceIte, reduceIte, Nat.reducePow, Nat.reduceLT, Nat.reduceLeDiff, Nat.reduceEqDiff, Nat.reduceAdd, Nat.reduceMul, Nat.reduceSub, Nat.reduceBEq, Nat.reduceDiv, Nat.reduceMod, reduceCtorEq, sl1, wFacts, zA, qA, qC, vA, vC, pts_def, bools_def, wSeq, nb_tf, nb_ft, nb_tt, nb_ff]
  rw [if_pos he] at hRc
  subst hRc
  exact retRef2 rfl (resAt_ref ldk46 rfl rfl rfl) (by unfold resAt; rfl) (sees_of_weak (settled_pvA _) (weak_agg (weakL_rfl (pvC (castC p id home (a + q)))))) ((settled_I _).sees _)
end
end Go.Ab.N

namespace Go.Ab.N
open Go Go.RowKit Go.Proofs
noncomputable section
set_option maxRecDepth 10000
set_option maxHeartbeats 4000000
set_option linter.unusedSimpArgs false
set_option linter.unusedVariables false
open Classical

/-! ### Debts -/
def dC (d : Int × Int × Int) : List AV := [I d.1, I d.2.1, I d.2.2]
def debts (l : List (Int × Int × Int)) : AV := sls dC 3 (0, 0, 0) l
theorem settled_dC (d : Int × Int × Int) : ∀ x ∈ dC d, Settled x := by simp [dC, settled_I]
theorem settled_debts (l : List (Int × Int × Int)) : Settled (debts l) := settled_sls settled_dC
theorem debts_def (l : List (Int × Int × Int)) : debts l = .sl l.length (l.length * 3) (slFs dC 3 (0, 0, 0) l) false := nrfl rfl
theorem dF (l : List (Int × Int × Int)) (i : Nat) : slFs dC 3 (0, 0, 0) l (i * 3) = I (l.getD i (0, 0, 0)).1 ∧ slFs dC 3 (0, 0, 0) l (i * 3 + 1) = I (l.getD i (0, 0, 0)).2.1 ∧ slFs dC 3 (0, 0, 0) l (i * 3 + 2) = I (l.getD i (0, 0, 0)).2.2 := by
  refine ⟨?_, ?_, ?_⟩
  · rw [slFs_at0 _ _ _ _ _ (by omega)]; rfl
  all_goals rw [slFs_at _ _ _ _ _ _ (by omega)]; rfl
/-- What a piece stands for. -/
def standN (ps : List Int) (n : Nat) (c : Int) : Option Int := if 0 ≤ c ∧ c < n ∧ 0 ≤ ps.getD c.toNat 0 then some (ps.getD c.toNat 0) else none
def standG (ps : List Int) (n : Nat) (c : Int) : Option AV := (standN ps n c).map I
def owes (ps : List Int) (k c : Int) : List (Int × Int × Int) := match standN ps ps.length c with
  | some p => [(k, c, p)]
  | none => []
def heapD (G : Int → Option AV) (D : List (Int × Int × Int)) : List AO := [.map .i64 G, .row 0 1 (ofL [.mp 0]), .row 0 1 (ofL [.osl 3 D.length 3 0 D.length]), .row D.length (D.length * 3) (slFs dC 3 (0, 0, 0) D)]
theorem retC0 {P : Program} {fn : Func} {str hcs : List Nat} {m : Nat} {H : List AO} {s : AS} (hr : fn.results = #[]) (hH : s.h.take m = H) : RetOk (envC P fn str hcs m (.tup []) H) s :=
  ⟨.tup [], by simp [resX, resV, envC, hr, resList, packR], rfl, hH⟩
theorem owe_own (ps : List Int) (D : List (Int × Int × Int)) (k c : Int) (hD : D.length < 1000000) :
    HCall Try.prog 9 [I k, I c, .ref 1 0 0, .ref 2 0 0] (heapD (standG ps ps.length) D) (.tup []) (heapD (standG ps ps.length) (D ++ owes ps k c)) := by
  have hG : belO 4 (.map .i64 (standG ps ps.length)) = True := eq_true fun n a h => by
    unfold standG at h
    simp only [Option.map_eq_some_iff] at h
    obtain ⟨x, _, rfl⟩ := h
    exact bel_of_settled (settled_I _)
  have hR : ∀ v n l, belO 4 (.row v n (slFs dC 3 (0, 0, 0) l)) = True := fun v n l => eq_true fun j _ => bel_of_settled (settled_cells (settled_dC _) _)
  obtain ⟨D', hD'⟩ : ∃ D', D' = D ++ owes ps k c := ⟨_, rfl⟩
  rw [← hD']
  refine HCall.introC (fn := Try.f9) Try.call9 Try.func9 rfl mixed 8 [] [] [] (by kernel_rfl) (Nat.le_of_ble_eq_true rfl) (by simp [wBel]) (by simp [heapD, wBel, hG, hR]) (vc_soundN 1000 ?_)
  cases hs : standN ps ps.length c with
  | none =>
    have f1 : standG ps ps.length c = none := by unfold standG; rw [hs]; rfl
    have ho : owes ps k c = [] := by unfold owes; rw [hs]
    simp only [AS.start, heapD, f1, ↓wPre, wPost, wFast, wCore, beq_self_eq_true, ite_true, ite_false, false_implies, true_implies, implies_true, eq_self, ne_eq, ↓reduceIte, reduceIte, Nat.reducePow, Nat.reduceLT, Nat.reduceLeDiff, Nat.reduceEqDiff, Nat.reduceAdd, Nat.reduceMul, Nat.reduceSub, Nat.reduceBEq, Nat.reduceDiv, Nat.reduceMod, reduceCtorEq, sl1, wFacts, zA, qA, qC, vA, vC, pts_def, bools_def, wSeq, nb_tf, nb_ft, nb_tt, nb_ff]
    exact retC0 rfl (by rw [hD', ho, List.append_nil]; rfl)
  | some p =>
    have f1 : standG ps ps.length c = some (I p) := by unfold standG; rw [hs]; rfl
    have ho : owes ps k c = [(k, c, p)] := by unfold owes; rw [hs]
    have hl : (D ++ [(k, c, p)]).length = D.length + 1 := by simp
    have hap := appFs_one dC 3 (0, 0, 0) D (k, c, p) (by omega)
    simp only [AS.start, heapD, f1, ↓wPre, wPost, wFast, wCore, beq_self_eq_true, ite_true, ite_false, false_implies, true_implies, implies_true, eq_self, ne_eq, ↓reduceIte, reduceIte, Nat.reducePow, Nat.reduceLT, Nat.reduceLeDiff, Nat.reduceEqDiff, Nat.reduceAdd, Nat.reduceMul, Nat.reduceSub, Nat.reduceBEq, Nat.reduceDiv, Nat.reduceMod, reduceCtorEq, sl1, wFacts, zA, qA, qC, vA, vC, pts_def, bools_def, wSeq, nb_tf, nb_ft, nb_tt, nb_ff]
    refine ⟨⟨fun j hj => ?_, by omega, by omega⟩, retC0 rfl ?_⟩
    · match j, hj with
      | 0, _ => rfl
      | 1, _ => rfl
      | 2, _ => rfl
      | j + 3, h => omega
    · rw [hD', ho, hl, ← hap]; rfl
def owesP (ps : List Int) (k : Int) (j : Int × Int) : List (Int × Int × Int) := owes ps k j.1 ++ owes ps k j.2
/-- The debts of the first joins. -/
def debtsN (js : List (Int × Int)) (ps : List Int) : Nat → List (Int × Int × Int)
  | 0 => []
  | n + 1 => debtsN js ps n ++ owesP ps n (js.getD n (0, 0))
theorem owes_len (ps : List Int) (k c : Int) : (owes ps k c).length ≤ 1 := by unfold owes; split <;> simp
theorem debtsN_len (js : List (Int × Int)) (ps : List Int) : ∀ n, (debtsN js ps n).length ≤ 2 * n
  | 0 => by simp [debtsN]
  | n + 1 => by
    have h1 := debtsN_len js ps n
    have h2 := owes_len ps n (js.getD n (0, 0)).1
    have h3 := owes_len ps n (js.getD n (0, 0)).2
    simp only [debtsN, owesP, List.length_append]
    omega
theorem standG_succ (ps : List Int) (n : Nat) (hn : n < ps.length) (h : 0 ≤ ps.getD n 0) : updK (standG ps n) n (I (ps.getD n 0)) = standG ps (n + 1) := by
  funext c
  unfold updK standG standN
  by_cases hc : c = n
  · rw [if_pos hc, if_pos (by rw [hc]; simp only [Int.toNat_natCast]; omega), hc]; rfl
  · rw [if_neg hc]
    congr 1
    by_cases h1 : 0 ≤ c ∧ c < n ∧ 0 ≤ ps.getD c.toNat 0
    · rw [if_pos h1, if_pos (by omega)]
    · rw [if_neg h1, if_neg (by omega)]
theorem standG_skip (ps : List Int) (n : Nat) (h : ¬ 0 ≤ ps.getD n 0) : standG ps n = standG ps (n + 1) := by
  funext c
  unfold standG standN
  congr 1
  by_cases h1 : 0 ≤ c ∧ c < n ∧ 0 ≤ ps.getD c.toNat 0
  · rw [if_pos h1, if_pos (by omega)]
  · rw [if_neg h1, if_neg]
    rintro ⟨h2, h3, h4⟩
    by_cases h5 : c = n
    · rw [h5, Int.toNat_natCast] at h4; exact h h4
    · exact h1 ⟨h2, by omega, h4⟩
theorem debts_fn (js : List (Int × Int)) (ps : List Int) (hj : js.length < 100000) (hp : ps.length < 9223372036854775808) : Fn Try.prog 4 [pts js, ints ps] (debts (debtsN js ps js.length)) := by
  obtain ⟨R, hR⟩ : ∃ R, R = debts (debtsN js ps js.length) := ⟨_, rfl⟩
  have sR : Settled R := hR ▸ settled_debts _
  rw [← hR]
  refine Fn.intro (fn := Try.f4) Try.call4 Try.func4 rfl mixed 12 [13, 14, 15, 27, 28, 29] [] [] (by kernel_rfl) (Nat.le_of_ble_eq_true rfl) (by simp [settled_pts, settled_ints]) (vc_soundN 1000 ?_)
  simp only [AS.start, ↓wPre, wPost, wFast, wCore, beq_self_eq_true, ite_true, ite_false, false_implies, true_implies, implies_true, eq_self, ne_eq, ↓reduceIte, reduceIte, Nat.reducePow, Nat.reduceLT, Nat.reduceLeDiff, Nat.reduceEqDiff, Nat.reduceAdd, Nat.reduceMul, Nat.reduceSub, Nat.reduceBEq, Nat.reduceDiv, Nat.reduceMod, reduceCtorEq, sl1, wFacts, zA, qA, qC, vA, vC, pts_def, bools_def, wSeq, nb_tf, nb_ft, nb_tt, nb_ff]
  refine run_loop (fun i : Nat => ⟨12, [13, 14, 15, 27, 28, 29], [pts js, ints ps, .any, .any, .any, .ref 1 0 0, .any, .any, .any, .any, .any, .any], [(13, ints ps), (14, I ps.length), (15, I i)], [.map .i64 (standG ps i), .row 0 1 (ofL [.mp 0])]⟩) (fun i => i ≤ ps.length) (fun i => ps.length - i) 0 (by omega)
    (sub_mk rfl (by simp [subL, pts_def, ints_def, I]) (by simp [subT, look, ints_def, I]) ?_) ?_
  · have : standG ps 0 = fun _ => none := by
      funext c
      unfold standG standN
      rw [if_neg (by omega)]; rfl
    rw [this]
  · intro i hi next
    by_cases hi2 : i < ps.length
    · have w1 : IntKind.i64.wrap ((i : Int) + 1) = ((i + 1 : Nat) : Int) := by rw [IntKind.wrap_i64]; omega
      have f1 : ((i : Int) < ps.length) = True := eq_true (by omega)
      have f2 : (i < ps.length) = True := eq_true hi2
      by_cases h0 : 0 ≤ ps.getD i 0
      · have f3 : (0 ≤ ps.getD i 0) = True := eq_true h0
        have hup := standG_succ ps i hi2 h0
        refine vc_soundN 1000 ?_
        simp only [ints_def, w1, f1, f2, f3, Int.toNat_natCast, ↓wPre, wPost, wFast, wCore, beq_self_eq_true, ite_true, ite_false, false_implies, true_implies, implies_true, eq_self, ne_eq, ↓reduceIte, reduceIte, Nat.reducePow, Nat.reduceLT, Nat.reduceLeDiff, Nat.reduceEqDiff, Nat.reduceAdd, Nat.reduceMul, Nat.reduceSub, Nat.reduceBEq, Nat.reduceDiv, Nat.reduceMod, reduceCtorEq, sl1, wFacts, zA, qA, qC, vA, vC, pts_def, bools_def, wSeq, nb_tf, nb_ft, nb_tt, nb_ff]
        exact next (i + 1) _ (by omega) (by omega) (sub_mk rfl (by simp [subL, ints_def, pts_def]) (by simp [subT, look, ints_def, I]) (by rw [← hup]; rfl))
      · have f3 : (0 ≤ ps.getD i 0) = False := eq_false h0
        have hup := standG_skip ps i h0
        refine vc_soundN 1000 ?_
        simp only [ints_def, w1, f1, f2, f3, Int.toNat_natCast, ↓wPre, wPost, wFast, wCore, beq_self_eq_true, ite_true, ite_false, false_implies, true_implies, implies_true, eq_self, ne_eq, ↓reduceIte, reduceIte, Nat.reducePow, Nat.reduceLT, Nat.reduceLeDiff, Nat.reduceEqDiff, Nat.reduceAdd, Nat.reduceMul, Nat.reduceSub, Nat.reduceBEq, Nat.reduceDiv, Nat.reduceMod, reduceCtorEq, sl1, wFacts, zA, qA, qC, vA, vC, pts_def, bools_def, wSeq, nb_tf, nb_ft, nb_tt, nb_ff]
        exact next (i + 1) _ (by omega) (by omega) (sub_mk rfl (by simp [subL, ints_def, pts_def]) (by simp [subT, look, ints_def, I]) (by rw [← hup]))
    obtain rfl : i = ps.length := by omega
    refine vc_soundN 1000 ?_
    simp only [ints_def, Int.lt_irrefl, Nat.lt_irrefl, ↓wPre, wPost, wFast, wCore, beq_self_eq_true, ite_true, ite_false, false_implies, true_implies, implies_true, eq_self, ne_eq, ↓reduceIte, reduceIte, Nat.reducePow, Nat.reduceLT, Nat.reduceLeDiff, Nat.reduceEqDiff, Nat.reduceAdd, Nat.reduceMul, Nat.reduceSub, Nat.reduceBEq, Nat.reduceDiv, Nat.reduceMod, reduceCtorEq, sl1, wFacts, zA, qA, qC, vA, vC, pts_def, bools_def, wSeq, nb_tf, nb_ft, nb_tt, nb_ff]
    have ad : ∀ m, Sub m (⟨12, [13, 14, 15, 27, 28, 29], [pts js, ints ps, .any, .any, .any, .ref 1 0 0, .any, .any, .ref 2 0 0, .fn 9 [.ref 1 0 0, .ref 2 0 0], .any, .any], [(29, I 0), (28, I js.length), (27, pts js), (13, ints ps), (14, I ps.length), (15, I ps.length)], [.map .i64 (standG ps ps.length), .row 0 1 (ofL [.mp 0]), .row 0 1 (ofL [.sl 0 0 (fun _ => .any) true])]⟩ : AS) ⟨12, [13, 14, 15, 27, 28, 29], [pts js, ints ps, .any, .any, .any, .ref 1 0 0, .any, .any, .ref 2 0 0, .fn 9 [.ref 1 0 0, .ref 2 0 0], .any, .any], [(29, I 0), (28, I js.length), (27, pts js), (13, ints ps), (14, I ps.length), (15, I ps.length)], heapD (standG ps ps.length) []⟩ := fun m => by
      refine (sub_rowf 2 1 (fun _ => .sl 0 0 (fun _ => .any) true) rfl (Nat.le_refl _) (fun j hj => by obtain rfl : j = 0 := by omega
                                                                                                       rfl)).trans ?_
      refine (sub_adoptc 2 3 (slFs dC 3 (0, 0, 0) []) rfl 1 (Nat.le_refl _)).trans ?_
      refine (sub_rowf 2 1 (ofL [.osl 3 0 3 0 0]) rfl (Nat.le_refl _) (fun j hj => by obtain rfl : j = 0 := by omega
                                                                                      rfl)).trans (sub_mk rfl ?_ ?_ ?_)
      · simp [subL]
      · simp [subT, look]
      · simp [heapD]
    refine Run.sub ?_ (ad _)
    obtain ⟨G, hGe⟩ : ∃ G, G = standG ps ps.length := ⟨_, rfl⟩
    have own := fun D k c h => owe_own ps D k c h
    have hG : belO 4 (.map .i64 G) = True := eq_true fun n a h => by
      rw [hGe] at h
      unfold standG at h
      simp only [Option.map_eq_some_iff] at h
      obtain ⟨x, _, rfl⟩ := h
      exact bel_of_settled (settled_I _)
    have hRo : ∀ v n l, belO 4 (.row v n (slFs dC 3 (0, 0, 0) l)) = True := fun v n l => eq_true fun j _ => bel_of_settled (settled_cells (settled_dC _) _)
    have hJ : Bel 4 (pts js) = True := eq_true (bel_of_settled (settled_pts _))
    rw [← hGe] at own ⊢
    refine run_loop (fun i : Nat => ⟨12, [13, 14, 15, 27, 28, 29], [.any, .any, .any, .any, .any, .any, .any, .any, .ref 2 0 0, .fn 9 [.ref 1 0 0, .ref 2 0 0], .any, .any], [(27, pts js), (28, I js.length), (29, I i)], heapD G (debtsN js ps i)⟩) (fun i => i ≤ js.length) (fun i => js.length - i) 0 (by omega)
      (sub_mk rfl (by simp [subL]) (by simp [subT, look]) rfl) ?_
    intro i hi next
    have w1 := wj i (by omega)
    have hdl := debtsN_len js ps i
    by_cases hi2 : i < js.length
    · have f1 : ((i : Int) < js.length) = True := eq_true (by omega)
      have f2 : (i < js.length) = True := eq_true hi2
      have f3 : (i * 2 + 2 ≤ js.length * 2) = True := eq_true (by omega)
      have v1 := ptF js i
      have z0 : ((0 : Int) < ((2 : Nat) : Int)) = True := eq_true (by omega)
      have z1 : ((1 : Int) < ((2 : Nat) : Int)) = True := eq_true (by omega)
      refine vc_soundN 1000 ?_
      simp only [heapD, z0, z1, w1, f1, f2, f3, v1, Int.toNat_natCast, ↓wPre, wPost, wFast, wCore, beq_self_eq_true, ite_true, ite_false, false_implies, true_implies, implies_true, eq_self, ne_eq, ↓reduceIte, reduceIte, Nat.reducePow, Nat.reduceLT, Nat.reduceLeDiff, Nat.reduceEqDiff, Nat.reduceAdd, Nat.reduceMul, Nat.reduceSub, Nat.reduceBEq, Nat.reduceDiv, Nat.reduceMod, reduceCtorEq, sl1, wFacts, zA, qA, qC, vA, vC, pts_def, bools_def, wSeq, nb_tf, nb_ft, nb_tt, nb_ff]
      have hOO : ∀ D, ∀ o ∈ heapD G D, belO 4 o := fun D o ho => by
        simp only [heapD, List.mem_cons, List.not_mem_nil, or_false] at ho
        rcases ho with rfl | rfl | rfl | rfl
        · exact hG ▸ trivial
        · simp [wBel]
        · simp [wBel]
        · exact hRo _ _ _ ▸ trivial
      have hUn : ∀ D, ∀ o ∈ heapD G D, o ≠ .unborn ∧ ∀ v n f, o ≠ .con v n f := fun D o ho => by
        simp only [heapD, List.mem_cons, List.not_mem_nil, or_false] at ho
        rcases ho with rfl | rfl | rfl | rfl <;> exact ⟨by simp, by simp⟩
      have hArg : ∀ a b : Int, ∀ x ∈ [I a, I b, .ref 1 0 0, .ref 2 0 0], Bel 4 x := fun a b x hx => by
        simp only [List.mem_cons, List.not_mem_nil, or_false] at hx
        rcases hx with rfl | rfl | rfl | rfl
        · exact bel_of_settled (settled_I _)
        · exact bel_of_settled (settled_I _)
        · have : Bel 4 (.ref 1 0 0) = True := by simp [wBel]
          exact this ▸ trivial
        · have : Bel 4 (.ref 2 0 0) = True := by simp [wBel]
          exact this ▸ trivial
      have h2 := owes_len ps i (js.getD i (0, 0)).1
      have o1 := own (debtsN js ps i) i (js.getD i (0, 0)).1 (by omega)
      have o2 := own (debtsN js ps i ++ owes ps i (js.getD i (0, 0)).1) i (js.getD i (0, 0)).2 (by rw [List.length_append]; omega)
      refine call_frame (H1 := heapD G (debtsN js ps i)) (H1' := heapD G (debtsN js ps i ++ owes ps i (js.getD i (0, 0)).1)) (rest := [AO.row 0 2 (ofL [I (js.getD i (0, 0)).1, I (js.getD i (0, 0)).2])]) rfl o1 rfl rfl (hArg _ _) (hOO _) (fun o ho => (hUn _ o ho).1) (fun o ho => (hUn _ o ho).1) (conEq_free (fun o ho => (hUn _ o ho).2) (fun o ho => (hUn _ o ho).2)) (weakL_rfl _) ?_
      simp only [heapD, z0, z1, w1, Int.reduceLE, ↓wPre, wPost, wFast, wCore, beq_self_eq_true, ite_true, ite_false, false_implies, true_implies, implies_true, eq_self, ne_eq, ↓reduceIte, reduceIte, Nat.reducePow, Nat.reduceLT, Nat.reduceLeDiff, Nat.reduceEqDiff, Nat.reduceAdd, Nat.reduceMul, Nat.reduceSub, Nat.reduceBEq, Nat.reduceDiv, Nat.reduceMod, reduceCtorEq, sl1, wFacts, zA, qA, qC, vA, vC, pts_def, bools_def, wSeq, nb_tf, nb_ft, nb_tt, nb_ff]
      refine call_frame (H1 := heapD G (debtsN js ps i ++ owes ps i (js.getD i (0, 0)).1)) (H1' := heapD G (debtsN js ps i ++ owes ps i (js.getD i (0, 0)).1 ++ owes ps i (js.getD i (0, 0)).2)) (rest := [AO.row 0 2 (ofL [I (js.getD i (0, 0)).1, I (js.getD i (0, 0)).2])]) rfl o2 rfl rfl (hArg _ _) (hOO _) (fun o ho => (hUn _ o ho).1) (fun o ho => (hUn _ o ho).1) (conEq_free (fun o ho => (hUn _ o ho).2) (fun o ho => (hUn _ o ho).2)) (weakL_rfl _) ?_
      simp only [heapD, z0, z1, w1, ↓wPre, wPost, wFast, wCore, beq_self_eq_true, ite_true, ite_false, false_implies, true_implies, implies_true, eq_self, ne_eq, ↓reduceIte, reduceIte, Nat.reducePow, Nat.reduceLT, Nat.reduceLeDiff, Nat.reduceEqDiff, Nat.reduceAdd, Nat.reduceMul, Nat.reduceSub, Nat.reduceBEq, Nat.reduceDiv, Nat.reduceMod, reduceCtorEq, sl1, wFacts, zA, qA, qC, vA, vC, pts_def, bools_def, wSeq, nb_tf, nb_ft, nb_tt, nb_ff]
      have hd : debtsN js ps i ++ owes ps i (js.getD i (0, 0)).1 ++ owes ps i (js.getD i (0, 0)).2 = debtsN js ps (i + 1) := by simp only [debtsN, owesP, List.append_assoc]
      refine next (i + 1) _ (by omega) (by omega) (sub_cut (m := 4) (Nat.zero_le _) rfl (by simp [subL]) (by simp [subT, look, pts_def, I]) (by rw [← hd]; rfl) ?_ (by simp [wBel, hJ]) (fun o ho => hOO _ o ho))
      simp [wBel]
    obtain rfl : i = js.length := by omega
    refine vc_soundN 1000 ?_
    simp only [heapD, Int.lt_irrefl, Nat.lt_irrefl, ↓wPre, wPost, wFast, wCore, beq_self_eq_true, ite_true, ite_false, false_implies, true_implies, implies_true, eq_self, ne_eq, ↓reduceIte, reduceIte, Nat.reducePow, Nat.reduceLT, Nat.reduceLeDiff, Nat.reduceEqDiff, Nat.reduceAdd, Nat.reduceMul, Nat.reduceSub, Nat.reduceBEq, Nat.reduceDiv, Nat.reduceMod, reduceCtorEq, sl1, wFacts, zA, qA, qC, vA, vC, pts_def, bools_def, wSeq, nb_tf, nb_ft, nb_tt, nb_ff]
    refine ret1 rfl ?_
    rw [hR, debts_def]
    refine sees_osl (n := (debtsN js ps js.length).length) (.inl rfl) (by omega) (fun h => by rw [h]) fun j hj => ?_
    rw [Nat.zero_add]
    exact (settled_cells (settled_dC _) _).sees _
end
end Go.Ab.N

