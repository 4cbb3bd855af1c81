/- Contracts of functions of these chapters, for every argument that fits, and what they need. -/
import Derived.Test.YtefjhgcndhepeaaGreatC7
import Derived.Test.YtefjhgcndhepeaaGreatC6
set_option linter.unusedSimpArgs false
set_option linter.unusedVariables false
open Nat renaming reducePow → Y1, reduceLT → Y2, reduceLeDiff → Y3, reduceEqDiff → Y4, reduceAdd → Y5, reduceMul → Y6, reduceSub → Y7, reduceBEq → Y8, reduceDiv → Y9, reduceMod → YA
namespace Go.Ab.N
open Go Go.RowKit Go.Proofs
noncomputable section
set_option maxRecDepth 10000
set_option maxHeartbeats 4000000
open Classical

/-! ### Which pieces are valid -/
theorem qb_of_sz (r : Rat) : qb r ≤ (RQ.of r).sz + 3 := by
  unfold qb RQ.sz RQ.of bl Ab.N.qd
  simp only
  by_cases h : r.den = 1
  · rw [if_pos h, h]
    have : (digs ((1 : Nat) : Int).natAbs).length ≤ 3 := bl_i64 ⟨by omega, by omega⟩
    omega
  · rw [if_neg h]
    have : ((r.den : Int)).natAbs = r.den := rfl
    rw [this]
    omega
theorem rsignR {x : RQ} {q : Rat} (h : x = RQ.of q) : Fn Tryz.prog 66 [x.A] (I q.num.sign) := by rw [h]; exact rsign_fn q
theorem rcmpR {x y : RQ} {a b : Rat} (hx : x = RQ.of a) (hy : y = RQ.of b) (sx : x.sz ≤ 1000000) (sy : y.sz ≤ 1000000) : Fn Tryz.prog 68 [x.A, y.A] (I (qcmp a b)) := by
  rw [hx] at sx; rw [hy] at sy
  have h1 := qb_of_sz a; have h2 := qb_of_sz b
  rw [hx, hy]; exact rcompare_fn a b (by unfold rm; omega) (by unfold rm; omega)
theorem rcmpN {x : RQ} {a : Rat} (hx : x = RQ.of a) (sx : x.sz ≤ 1000000) (b : Rat) (hb : qb b ≤ rm) : Fn Tryz.prog 68 [x.A, qA b] (I (qcmp a b)) := by
  rw [hx] at sx
  have h1 := qb_of_sz a
  rw [hx]; exact rcompare_fn a b (by unfold rm; omega) hb
structure PV.small (p : PV) : Prop where
  rim : p.rim.length < 1000000
  worn : p.worn.length < 1000000
  marks : p.marks.length < 1000000
  tol : p.tol.sz ≤ 1000000
  light : p.light.sz ≤ 1000000
  heavy : p.heavy.sz ≤ 1000000
  strength : p.strength.sz ≤ 1000000
  rough : p.rough.sz ≤ 1000000
def nonneg (x : RQ) : Prop := ∃ q : Rat, x = RQ.of q ∧ ¬ q.num.sign < 0
/-- A valid piece, but for the ranges. -/
def fineP (p : PV) : Prop := (p.rim.length ≤ 12 ∧ p.worn.length = p.rim.length ∧ p.marks.length = p.rim.length) ∧
  (∃ t l h s r : Rat, (p.tol = RQ.of t ∧ p.light = RQ.of l ∧ p.heavy = RQ.of h ∧ p.strength = RQ.of s ∧ p.rough = RQ.of r) ∧ (0 ≤ t ∧ t ≤ 4 ∧ 0 ≤ r ∧ r ≤ 4) ∧ (0 < l ∧ l ≤ h ∧ h ≤ 1000) ∧ 0 < s) ∧ polyOk (rimV p.rim)
def pieceErr (p : PV) : Int := if rangeOk p then (if fineP p then 0 else 1) else 5
theorem sign_lt (q : Rat) : q.num.sign < 0 ↔ q < 0 := by rw [Int.sign_neg_iff, Rat.lt_iff]; simp
theorem sign_gt (q : Rat) : 0 < q.num.sign ↔ 0 < q := by rw [Int.sign_pos_iff, Rat.lt_iff]; simp
theorem sign_eq (q : Rat) : q.num.sign = 0 ↔ q = 0 := by rw [Int.sign_eq_zero_iff_zero]; exact Rat.num_eq_zero
theorem divInt_one (n : Int) : Rat.divInt n 1 = (n : Rat) := by
  rw [show (1 : Int) = ((1 : Nat) : Int) from rfl, Rat.divInt_ofNat]
  have := Rat.mkRat_self (n : Rat)
  rwa [Rat.num_intCast, Rat.den_intCast] at this

theorem rimV_small (p : PV) (h : ∀ i, i < p.rim.length → ptOk (p.rim.getD i (0, 0)) = true) : smallV (rimV p.rim) 1000 := by
  intro i
  by_cases hi : i < p.rim.length
  · have h1 : (rimV p.rim).getD i v0 = ptV (p.rim.getD i (0, 0)) := by
      unfold rimV
      rw [List.getD_eq_getElem?_getD, List.getD_eq_getElem?_getD, List.getElem?_map, List.getElem?_eq_getElem hi]; rfl
    have hok := h i hi
    unfold ptOk wb at hok
    simp only [Bool.and_eq_true, decide_eq_true_eq] at hok
    rw [h1]
    have q1 := qb_int (p.rim.getD i (0, 0)).1 3 (by omega) (bl_i64 ⟨by omega, by omega⟩)
    have q2 := qb_int (p.rim.getD i (0, 0)).2 3 (by omega) (bl_i64 ⟨by omega, by omega⟩)
    unfold vb ptV
    simp only
    omega
  · have h1 : (rimV p.rim).getD i v0 = v0 := by
      rw [List.getD_eq_getElem?_getD, List.getElem?_eq_none (by simp [rimV]; omega)]; rfl
    rw [h1]
    have := qb_zero
    unfold vb v0
    simp only
    omega
theorem piece_valid_fn (p : PV) (hs : p.small) : Fn Tryz.prog 22 [pvA p] (I (pieceErr p)) := by
  obtain ⟨V, hV⟩ : ∃ V, V = pieceErr p := ⟨_, rfl⟩
  have fin : ∀ {s : AS} {v : Int}, s.get 2 = I v → v = V → RetOk (envP Tryz.prog Tryz.f22 [] [] (I V)) s := fun h e => ret1E rfl h (settled_I _) (by rw [e])
  have c0 := inRange_fn p hs.rim hs.marks
  rw [← hV]
  refine Fn.intro (fn := Tryz.f22) Tryz.call22 Tryz.func22 rfl mixed 9 [32, 33] [] [] (by kernel_rfl) (Nat.le_of_ble_eq_true rfl) (by simp [settled_pvA]) (vc_soundN 1000 ?_)
  simp only [AS.start, pvA, pvC, ↓wPre, wA, ↓reduceIte, reduceIte, reduceCtorEq, Y1, Y2, Y3, Y4, Y5, Y6, Y7, Y8, Y9, YA, wE]
  refine call_fn c0 rfl ?_
  by_cases hro : rangeOk p
  rotate_left
  · rw [decide_eq_false hro]
    simp only [↓wPre, wA, ↓reduceIte, reduceIte, reduceCtorEq, Y1, Y2, Y3, Y4, Y5, Y6, Y7, Y8, Y9, YA, wE]
    exact fin rfl (by rw [hV]; unfold pieceErr; rw [if_neg hro])
  rw [decide_eq_true hro]
  have hV1 : V = if fineP p then 0 else 1 := by rw [hV]; unfold pieceErr; rw [if_pos hro]
  have bad : ¬ fineP p → (1 : Int) = V := fun h => by rw [hV1, if_neg h]
  by_cases g1 : (12 : Int) < p.rim.length
  · have f1 : ((12 : Int) < p.rim.length) = True := eq_true g1
    simp only [f1, ↓wPre, wA, ↓reduceIte, reduceIte, reduceCtorEq, Y1, Y2, Y3, Y4, Y5, Y6, Y7, Y8, Y9, YA, wE]
    exact fin rfl (bad fun h => by have := h.1.1; omega)
  have f1 : ((12 : Int) < p.rim.length) = False := eq_false g1
  by_cases g2 : p.worn.length = p.rim.length
  rotate_left
  · have f2 : (p.worn.length = p.rim.length) = False := eq_false g2
    have f2' : ((p.worn.length : Int) = p.rim.length) = False := eq_false (by omega)
    simp only [f1, f2, f2', ↓wPre, wA, ↓reduceIte, reduceIte, reduceCtorEq, Y1, Y2, Y3, Y4, Y5, Y6, Y7, Y8, Y9, YA, wE]
    exact fin rfl (bad fun h => g2 h.1.2.1)
  have f2 : (p.worn.length = p.rim.length) = True := eq_true g2
  have f2' : ((p.worn.length : Int) = p.rim.length) = True := eq_true (by omega)
  by_cases g3 : p.marks.length = p.rim.length
  rotate_left
  · have f3 : (p.marks.length = p.rim.length) = False := eq_false g3
    have f3' : ((p.marks.length : Int) = p.rim.length) = False := eq_false (by omega)
    simp only [f1, f2, f2', f3, f3', ↓wPre, wA, ↓reduceIte, reduceIte, reduceCtorEq, Y1, Y2, Y3, Y4, Y5, Y6, Y7, Y8, Y9, YA, wE]
    exact fin rfl (bad fun h => g3 h.1.2.2)
  have f3 : (p.marks.length = p.rim.length) = True := eq_true g3
  have f3' : ((p.marks.length : Int) = p.rim.length) = True := eq_true (by omega)
  simp only [f1, f2, f2', f3, f3', ↓wPre, wA, ↓reduceIte, reduceIte, reduceCtorEq, Y1, Y2, Y3, Y4, Y5, Y6, Y7, Y8, Y9, YA, wE]
  have cn := numbers_fn p
  refine call_fn cn rfl ?_
  simp only [numC, ↓wPre, wA, ↓reduceIte, reduceIte, reduceCtorEq, Y1, Y2, Y3, Y4, Y5, Y6, Y7, Y8, Y9, YA, wE]
  refine run_loop (fun i : Nat => ⟨9, [32, 33], [.any, .ref 0 0 0, I 0, I p.rim.length, .any, .any, .any, .any, .any], [(32, .agg (numC p)), (33, I i)], [.row 0 25 (ofL (pvC p))]⟩) (fun i => i ≤ 5 ∧ ∀ j, j < i → nonneg (p.num j)) (fun i => 5 - i) 0 ⟨by omega, by omega⟩
    (sub_mk rfl (by simp [subL, I]) (by simp [subT, look, numC, ints_def, I]) (by simp [pvC, pts_def, bools_def, ints_def, I])) ?_
  rintro i ⟨hi, hok⟩ next
  have bn : Bel 1 (.agg (numC p)) = True := eq_true (bel_of_settled (settled_agg (by simp [numC, settled_ints, settled_bool])))
  have bo : belO 1 (.row 0 25 (ofL (pvC p))) = True := eq_true (belO_set (settled_pvC p))
  have badi : ∀ j, j < 5 → ¬ nonneg (p.num j) → (1 : Int) = V := fun j hj hn => bad fun h => by
    obtain ⟨t, l, hh, s, r, ⟨e1, e2, e3, e4, e5⟩, ⟨b1, b2, b3, b4⟩, ⟨b5, b6, b7⟩, b8⟩ := h.2.1
    apply hn
    match j, hj with
    | 0, _ => exact ⟨t, e1, by rw [sign_lt, Rat.not_lt]; exact b1⟩
    | 1, _ => exact ⟨l, e2, by rw [sign_lt, Rat.not_lt]; exact Rat.le_of_lt b5⟩
    | 2, _ => exact ⟨hh, e3, by rw [sign_lt, Rat.not_lt]; exact Rat.le_trans (Rat.le_of_lt b5) b6⟩
    | 3, _ => exact ⟨s, e4, by rw [sign_lt, Rat.not_lt]; exact Rat.le_of_lt b8⟩
    | 4, _ => exact ⟨r, e5, by rw [sign_lt, Rat.not_lt]; exact b3⟩
    | j + 5, h => omega
  have hsz : ∀ j, (p.num j).sz < 1000000000 := fun j => by
    have := hs.tol; have := hs.light; have := hs.heavy; have := hs.strength; have := hs.rough
    match j with
    | 0 => show p.tol.sz < _; omega
    | 1 => show p.light.sz < _; omega
    | 2 => show p.heavy.sz < _; omega
    | 3 => show p.strength.sz < _; omega
    | j + 4 => show p.rough.sz < _; omega
  have e5 : ((5 : Nat) : Int) = 5 := rfl
  by_cases hi5 : i < 5
  · have c1 := rvalid_fn (p.num i) (hsz i)
    have w0 : IntKind.i64.wrap (0 + 1) = 1 := by decide
    have w1 : IntKind.i64.wrap (1 + 1) = 2 := by decide
    have w2 : IntKind.i64.wrap (2 + 1) = 3 := by decide
    have w3 : IntKind.i64.wrap (3 + 1) = 4 := by decide
    have w4 : IntKind.i64.wrap (4 + 1) = 5 := by decide
    have e0 : ((0 : Nat) : Int) = 0 := rfl
    have e1 : ((1 : Nat) : Int) = 1 := rfl
    have e2 : ((2 : Nat) : Int) = 2 := rfl
    have e3 : ((3 : Nat) : Int) = 3 := rfl
    have e4 : ((4 : Nat) : Int) = 4 := rfl
    have t1 : (1 : Int).toNat = 1 := rfl
    have t2 : (2 : Int).toNat = 2 := rfl
    have t3 : (3 : Int).toNat = 3 := rfl
    have t4 : (4 : Int).toNat = 4 := rfl
    have hcase : i = 0 ∨ i = 1 ∨ i = 2 ∨ i = 3 ∨ i = 4 := by omega
    by_cases hv : (p.num i).ok
    rotate_left
    · rw [decide_eq_false hv] at c1
      have hb := badi i hi5 fun ⟨q, hq, _⟩ => hv ⟨q, hq⟩
      rcases hcase with rfl | rfl | rfl | rfl | rfl
      all_goals
        refine vc_soundN 1000 ?_
        simp only [pvC, numC, e0, e1, e2, e3, e4, e5, t1, t2, t3, t4, w0, w1, w2, w3, w4, Int.reduceLT, Int.reduceLE, Int.toNat_zero, ↓wPre, wA, ↓reduceIte, reduceIte, reduceCtorEq, Y1, Y2, Y3, Y4, Y5, Y6, Y7, Y8, Y9, YA, wE]
        refine call_fn c1 rfl ?_
        simp only [↓wPre, wA, ↓reduceIte, reduceIte, reduceCtorEq, Y1, Y2, Y3, Y4, Y5, Y6, Y7, Y8, Y9, YA, wE]
        exact fin rfl hb
    obtain ⟨q, hq⟩ := hv
    rw [decide_eq_true ⟨q, hq⟩] at c1
    have c2 := rsignR hq
    by_cases hn : q.num.sign < 0
    · have g1 : (q.num.sign < 0) = True := eq_true hn
      have hb := badi i hi5 fun ⟨q', hq', h'⟩ => by
        have := RQ.of_inj (hq'.symm.trans hq)
        rw [this] at h'; exact h' hn
      rcases hcase with rfl | rfl | rfl | rfl | rfl
      all_goals
        refine vc_soundN 1000 ?_
        simp only [pvC, numC, e0, e1, e2, e3, e4, e5, t1, t2, t3, t4, w0, w1, w2, w3, w4, Int.reduceLT, Int.reduceLE, Int.toNat_zero, ↓wPre, wA, ↓reduceIte, reduceIte, reduceCtorEq, Y1, Y2, Y3, Y4, Y5, Y6, Y7, Y8, Y9, YA, wE]
        refine call_fn c1 rfl ?_
        simp only [↓wPre, wA, ↓reduceIte, reduceIte, reduceCtorEq, Y1, Y2, Y3, Y4, Y5, Y6, Y7, Y8, Y9, YA, wE]
        refine call_fn c2 rfl ?_
        simp only [g1, ↓wPre, wA, ↓reduceIte, reduceIte, reduceCtorEq, Y1, Y2, Y3, Y4, Y5, Y6, Y7, Y8, Y9, YA, wE]
        exact fin rfl hb
    have g1 : (q.num.sign < 0) = False := eq_false hn
    have nx := next (i + 1)
    rcases hcase with rfl | rfl | rfl | rfl | rfl
    all_goals
      refine vc_soundN 1000 ?_
      simp only [pvC, numC, e0, e1, e2, e3, e4, e5, t1, t2, t3, t4, w0, w1, w2, w3, w4, Int.reduceLT, Int.reduceLE, Int.toNat_zero, ↓wPre, wA, ↓reduceIte, reduceIte, reduceCtorEq, Y1, Y2, Y3, Y4, Y5, Y6, Y7, Y8, Y9, YA, wE]
      refine call_fn c1 rfl ?_
      simp only [w0, w1, w2, w3, w4, ↓wPre, wA, ↓reduceIte, reduceIte, reduceCtorEq, Y1, Y2, Y3, Y4, Y5, Y6, Y7, Y8, Y9, YA, wE]
      refine call_fn c2 rfl ?_
      simp only [g1, w0, w1, w2, w3, w4, ↓wPre, wA, ↓reduceIte, reduceIte, reduceCtorEq, Y1, Y2, Y3, Y4, Y5, Y6, Y7, Y8, Y9, YA, wE]
      refine nx _ ⟨by omega, fun j hj => ?_⟩ (by omega) (sub_cut (m := 1) (Nat.zero_le _) rfl (by simp [subL, I]) (by simp [subT, look, numC, ints_def, I]) (by simp [pvC, pts_def, bools_def, ints_def, I]) (by simp [wBel]) (by simp [wBel, bn]) (by simp [bo]))
      rcases Nat.lt_succ_iff_lt_or_eq.1 hj with h | h
      · exact hok j h
      · rw [h]; exact ⟨q, hq, hn⟩
  obtain rfl : i = 5 := by omega
  obtain ⟨t, et, nt⟩ := hok 0 (by omega)
  obtain ⟨l, el, nl⟩ := hok 1 (by omega)
  obtain ⟨h, eh, nh⟩ := hok 2 (by omega)
  obtain ⟨s, es, ns⟩ := hok 3 (by omega)
  obtain ⟨r, er, nr⟩ := hok 4 (by omega)
  refine vc_soundN 1000 ?_
  simp only [pvC, e5, Int.lt_irrefl, ↓wPre, wA, ↓reduceIte, reduceIte, reduceCtorEq, Y1, Y2, Y3, Y4, Y5, Y6, Y7, Y8, Y9, YA, wE]
  have c4 := rof_fn 4 1 ⟨by omega, by omega⟩ ⟨by omega, by omega⟩
  have c1000 := rof_fn 1000 1 ⟨by omega, by omega⟩ ⟨by omega, by omega⟩
  rw [divInt_one] at c4 c1000
  have q4 : qb ((4 : Int) : Rat) ≤ rm := by
    have := qb_int 4 3 (by omega) (bl_i64 ⟨by omega, by omega⟩)
    unfold rm; omega
  have q1000 : qb ((1000 : Int) : Rat) ≤ rm := by
    have := qb_int 1000 3 (by omega) (bl_i64 ⟨by omega, by omega⟩)
    unfold rm; omega
  have ct := rcmpN et hs.tol ((4 : Int) : Rat) q4
  have cr := rcmpN er hs.rough ((4 : Int) : Rat) q4
  have ch := rcmpN eh hs.heavy ((1000 : Int) : Rat) q1000
  have clh := rcmpR el eh hs.light hs.heavy
  have i4 : ((4 : Int) : Rat) = 4 := rfl
  have i1000 : ((1000 : Int) : Rat) = 1000 := rfl
  have who : fineP p → (0 ≤ t ∧ t ≤ 4 ∧ 0 ≤ r ∧ r ≤ 4) ∧ (0 < l ∧ l ≤ h ∧ h ≤ 1000) ∧ 0 < s ∧ polyOk (rimV p.rim) := by
    rintro ⟨_, ⟨t', l', h', s', r', ⟨a1, a2, a3, a4, a5⟩, b1, b2, b3⟩, b4⟩
    have := RQ.of_inj (a1.symm.trans et); subst this
    have := RQ.of_inj (a2.symm.trans el); subst this
    have := RQ.of_inj (a3.symm.trans eh); subst this
    have := RQ.of_inj (a4.symm.trans es); subst this
    have := RQ.of_inj (a5.symm.trans er); subst this
    exact ⟨b1, b2, b3, b4⟩
  refine call_fn c4 rfl ?_
  simp only [↓wPre, wA, ↓reduceIte, reduceIte, reduceCtorEq, Y1, Y2, Y3, Y4, Y5, Y6, Y7, Y8, Y9, YA, wE]
  refine call_fn ct rfl ?_
  by_cases ht4 : qcmp t ((4 : Int) : Rat) ≤ 0
  rotate_left
  · have j1 : (qcmp t ((4 : Int) : Rat) ≤ 0) = False := eq_false ht4
    have hb := bad fun hf => ht4 ((qcmp_le _ _).2 (who hf).1.2.1)
    simp only [j1, ↓wPre, wA, ↓reduceIte, reduceIte, reduceCtorEq, Y1, Y2, Y3, Y4, Y5, Y6, Y7, Y8, Y9, YA, wE]
    refine call_fn (rsignR el) rfl ?_
    by_cases hl0 : 0 < l.num.sign
    rotate_left
    · have k1 : (0 < l.num.sign) = False := eq_false hl0
      simp only [j1, k1, ↓wPre, wA, ↓reduceIte, reduceIte, reduceCtorEq, Y1, Y2, Y3, Y4, Y5, Y6, Y7, Y8, Y9, YA, wE]
      exact fin rfl hb
    have k1 : (0 < l.num.sign) = True := eq_true hl0
    simp only [j1, k1, ↓wPre, wA, ↓reduceIte, reduceIte, reduceCtorEq, Y1, Y2, Y3, Y4, Y5, Y6, Y7, Y8, Y9, YA, wE]
    refine call_fn clh rfl ?_
    by_cases hlh : qcmp l h ≤ 0
    rotate_left
    · have k2 : (qcmp l h ≤ 0) = False := eq_false hlh
      simp only [j1, k1, k2, ↓wPre, wA, ↓reduceIte, reduceIte, reduceCtorEq, Y1, Y2, Y3, Y4, Y5, Y6, Y7, Y8, Y9, YA, wE]
      exact fin rfl hb
    have k2 : (qcmp l h ≤ 0) = True := eq_true hlh
    simp only [j1, k1, k2, ↓wPre, wA, ↓reduceIte, reduceIte, reduceCtorEq, Y1, Y2, Y3, Y4, Y5, Y6, Y7, Y8, Y9, YA, wE]
    refine call_fn c1000 rfl ?_
    simp only [j1, k1, k2, ↓wPre, wA, ↓reduceIte, reduceIte, reduceCtorEq, Y1, Y2, Y3, Y4, Y5, Y6, Y7, Y8, Y9, YA, wE]
    refine call_fn ch rfl ?_
    simp only [j1, k1, k2, ↓wPre, wA, ↓reduceIte, reduceIte, reduceCtorEq, Y1, Y2, Y3, Y4, Y5, Y6, Y7, Y8, Y9, YA, wE]
    exact fin rfl hb
  have j1 : (qcmp t ((4 : Int) : Rat) ≤ 0) = True := eq_true ht4
  simp only [j1, ↓wPre, wA, ↓reduceIte, reduceIte, reduceCtorEq, Y1, Y2, Y3, Y4, Y5, Y6, Y7, Y8, Y9, YA, wE]
  refine call_fn cr rfl ?_
  by_cases hr4 : qcmp r ((4 : Int) : Rat) ≤ 0
  rotate_left
  · have j2 : (qcmp r ((4 : Int) : Rat) ≤ 0) = False := eq_false hr4
    have hb := bad fun hf => hr4 ((qcmp_le _ _).2 (who hf).1.2.2.2)
    simp only [j1, j2, ↓wPre, wA, ↓reduceIte, reduceIte, reduceCtorEq, Y1, Y2, Y3, Y4, Y5, Y6, Y7, Y8, Y9, YA, wE]
    refine call_fn (rsignR el) rfl ?_
    by_cases hl0 : 0 < l.num.sign
    rotate_left
    · have k1 : (0 < l.num.sign) = False := eq_false hl0
      simp only [j1, j2, k1, ↓wPre, wA, ↓reduceIte, reduceIte, reduceCtorEq, Y1, Y2, Y3, Y4, Y5, Y6, Y7, Y8, Y9, YA, wE]
      exact fin rfl hb
    have k1 : (0 < l.num.sign) = True := eq_true hl0
    simp only [j1, j2, k1, ↓wPre, wA, ↓reduceIte, reduceIte, reduceCtorEq, Y1, Y2, Y3, Y4, Y5, Y6, Y7, Y8, Y9, YA, wE]
    refine call_fn clh rfl ?_
    by_cases hlh : qcmp l h ≤ 0
    rotate_left
    · have k2 : (qcmp l h ≤ 0) = False := eq_false hlh
      simp only [j1, j2, k1, k2, ↓wPre, wA, ↓reduceIte, reduceIte, reduceCtorEq, Y1, Y2, Y3, Y4, Y5, Y6, Y7, Y8, Y9, YA, wE]
      exact fin rfl hb
    have k2 : (qcmp l h ≤ 0) = True := eq_true hlh
    simp only [j1, j2, k1, k2, ↓wPre, wA, ↓reduceIte, reduceIte, reduceCtorEq, Y1, Y2, Y3, Y4, Y5, Y6, Y7, Y8, Y9, YA, wE]
    refine call_fn c1000 rfl ?_
    simp only [j1, j2, k1, k2, ↓wPre, wA, ↓reduceIte, reduceIte, reduceCtorEq, Y1, Y2, Y3, Y4, Y5, Y6, Y7, Y8, Y9, YA, wE]
    refine call_fn ch rfl ?_
    simp only [j1, j2, k1, k2, ↓wPre, wA, ↓reduceIte, reduceIte, reduceCtorEq, Y1, Y2, Y3, Y4, Y5, Y6, Y7, Y8, Y9, YA, wE]
    exact fin rfl hb
  have j2 : (qcmp r ((4 : Int) : Rat) ≤ 0) = True := eq_true hr4
  simp only [j1, j2, ↓wPre, wA, ↓reduceIte, reduceIte, reduceCtorEq, Y1, Y2, Y3, Y4, Y5, Y6, Y7, Y8, Y9, YA, wE]
  refine call_fn (rsignR el) rfl ?_
  by_cases hl0 : 0 < l.num.sign
  rotate_left
  · have k1 : (0 < l.num.sign) = False := eq_false hl0
    simp only [j1, j2, k1, ↓wPre, wA, ↓reduceIte, reduceIte, reduceCtorEq, Y1, Y2, Y3, Y4, Y5, Y6, Y7, Y8, Y9, YA, wE]
    exact fin rfl (bad fun hf => hl0 ((sign_gt _).2 (who hf).2.1.1))
  have k1 : (0 < l.num.sign) = True := eq_true hl0
  simp only [j1, j2, k1, ↓wPre, wA, ↓reduceIte, reduceIte, reduceCtorEq, Y1, Y2, Y3, Y4, Y5, Y6, Y7, Y8, Y9, YA, wE]
  refine call_fn clh rfl ?_
  by_cases hlh : qcmp l h ≤ 0
  rotate_left
  · have k2 : (qcmp l h ≤ 0) = False := eq_false hlh
    simp only [j1, j2, k1, k2, ↓wPre, wA, ↓reduceIte, reduceIte, reduceCtorEq, Y1, Y2, Y3, Y4, Y5, Y6, Y7, Y8, Y9, YA, wE]
    exact fin rfl (bad fun hf => hlh ((qcmp_le _ _).2 (who hf).2.1.2.1))
  have k2 : (qcmp l h ≤ 0) = True := eq_true hlh
  simp only [j1, j2, k1, k2, ↓wPre, wA, ↓reduceIte, reduceIte, reduceCtorEq, Y1, Y2, Y3, Y4, Y5, Y6, Y7, Y8, Y9, YA, wE]
  refine call_fn c1000 rfl ?_
  simp only [j1, j2, k1, k2, ↓wPre, wA, ↓reduceIte, reduceIte, reduceCtorEq, Y1, Y2, Y3, Y4, Y5, Y6, Y7, Y8, Y9, YA, wE]
  refine call_fn ch rfl ?_
  by_cases hh1 : qcmp h ((1000 : Int) : Rat) ≤ 0
  rotate_left
  · have k3 : (qcmp h ((1000 : Int) : Rat) ≤ 0) = False := eq_false hh1
    simp only [j1, j2, k1, k2, k3, ↓wPre, wA, ↓reduceIte, reduceIte, reduceCtorEq, Y1, Y2, Y3, Y4, Y5, Y6, Y7, Y8, Y9, YA, wE]
    exact fin rfl (bad fun hf => hh1 ((qcmp_le _ _).2 (who hf).2.1.2.2))
  have k3 : (qcmp h ((1000 : Int) : Rat) ≤ 0) = True := eq_true hh1
  simp only [j1, j2, k1, k2, k3, ↓wPre, wA, ↓reduceIte, reduceIte, reduceCtorEq, Y1, Y2, Y3, Y4, Y5, Y6, Y7, Y8, Y9, YA, wE]
  refine call_fn (rsignR es) rfl ?_
  by_cases hs0 : s.num.sign = 0
  · have k4 : (s.num.sign = 0) = True := eq_true hs0
    simp only [k4, ↓wPre, wA, ↓reduceIte, reduceIte, reduceCtorEq, Y1, Y2, Y3, Y4, Y5, Y6, Y7, Y8, Y9, YA, wE]
    exact fin rfl (bad fun hf => by
      have := (who hf).2.2.1
      rw [(sign_eq _).1 hs0] at this
      exact Rat.lt_irrefl this)
  have k4 : (s.num.sign = 0) = False := eq_false hs0
  simp only [k4, ↓wPre, wA, ↓reduceIte, reduceIte, reduceCtorEq, Y1, Y2, Y3, Y4, Y5, Y6, Y7, Y8, Y9, YA, wE]
  have cp := pvalid_fn (rimV p.rim) (rimV_small p hro.1) (by simp [rimV]; exact hs.rim)
  refine call_fn (rim_fn p hs.rim hro.1) rfl ?_
  simp only [↓wPre, wA, ↓reduceIte, reduceIte, reduceCtorEq, Y1, Y2, Y3, Y4, Y5, Y6, Y7, Y8, Y9, YA, wE]
  refine call_fn cp rfl ?_
  by_cases hpo : polyOk (rimV p.rim)
  rotate_left
  · rw [decide_eq_false hpo]
    simp only [↓wPre, wA, ↓reduceIte, reduceIte, reduceCtorEq, Y1, Y2, Y3, Y4, Y5, Y6, Y7, Y8, Y9, YA, wE]
    exact fin rfl (bad fun hf => hpo (who hf).2.2.2)
  rw [decide_eq_true hpo]
  simp only [↓wPre, wA, ↓reduceIte, reduceIte, reduceCtorEq, Y1, Y2, Y3, Y4, Y5, Y6, Y7, Y8, Y9, YA, wE]
  refine fin rfl ?_
  rw [hV1, if_pos]
  refine ⟨⟨by omega, g2, g3⟩, ⟨t, l, h, s, r, ⟨et, el, eh, es, er⟩, ⟨?_, (qcmp_le _ _).1 ht4, ?_, (qcmp_le _ _).1 hr4⟩, ⟨(sign_gt _).1 hl0, (qcmp_le _ _).1 hlh, (qcmp_le _ _).1 hh1⟩, ?_⟩, hpo⟩
  · rw [← Rat.not_lt, ← sign_lt]; exact nt
  · rw [← Rat.not_lt, ← sign_lt]; exact nr
  · rw [← sign_gt]
    omega
end
end Go.Ab.N
namespace Go.Ab.N
open Go Go.RowKit Go.Proofs
noncomputable section
set_option maxRecDepth 10000
set_option maxHeartbeats 4000000
open Classical

/-! ### Pieces that are the same -/
theorem PV.eq_iff (a b : PV) : a = b ↔ (a.tol = b.tol ∧ a.light = b.light ∧ a.heavy = b.heavy ∧ a.strength = b.strength ∧ a.rough = b.rough) ∧ a.id = b.id ∧ a.home = b.home ∧ a.rim = b.rim ∧ a.worn = b.worn ∧ a.marks = b.marks := by
  constructor
  · rintro rfl; exact ⟨⟨rfl, rfl, rfl, rfl, rfl⟩, rfl, rfl, rfl, rfl, rfl⟩
  · cases a; cases b
    rintro ⟨⟨h1, h2, h3, h4, h5⟩, h6, h7, h8, h9, h10⟩
    simp only at *
    subst h1; subst h2; subst h3; subst h4; subst h5; subst h6; subst h7; subst h8; subst h9; subst h10
    rfl
theorem psame_fn (a b : PV) (ha : a.small) (hb : b.small) : Fn Tryz.prog 87 [pvA a, pvA b] (.bool (decide (a = b))) := by
  obtain ⟨V, hV⟩ : ∃ V, V = decide (a = b) := ⟨_, rfl⟩
  have fin : ∀ {s : AS} {v : Bool}, s.get 4 = .bool v → v = V → RetOk (envP Tryz.prog Tryz.f87 [1, 20000002, 20000003] [] (.bool V)) s := fun h e => ret1E rfl h (settled_bool _) (by rw [e])
  have ca := numbers_fn a
  have cb := numbers_fn b
  rw [← hV]
  refine Fn.intro (fn := Tryz.f87) Tryz.call87 Tryz.func87 rfl mixed 8 [12] [1, 20000002, 20000003] [] (by kernel_rfl) (Nat.le_of_ble_eq_true rfl) (by simp [settled_pvA]) (vc_soundN 1000 ?_)
  simp only [AS.start, pvA, pvC, ↓wPre, wA, ↓reduceIte, reduceIte, reduceCtorEq, Y1, Y2, Y3, Y4, Y5, Y6, Y7, Y8, Y9, YA, wE]
  refine call_fn ca rfl ?_
  simp only [numC, ↓wPre, wA, ↓reduceIte, reduceIte, reduceCtorEq, Y1, Y2, Y3, Y4, Y5, Y6, Y7, Y8, Y9, YA, wE]
  refine call_fn cb rfl ?_
  simp only [numC, ↓wPre, wA, ↓reduceIte, reduceIte, reduceCtorEq, Y1, Y2, Y3, Y4, Y5, Y6, Y7, Y8, Y9, YA, wE]
  refine run_loop (fun i : Nat => ⟨8, [12], [.any, .any, .ref 0 0 0, .ref 1 0 0, .bool false, .ref 2 0 0, .ref 3 0 0, .any], [(12, I i)], [.con 0 25 (ofL (pvC a)), .con 0 25 (ofL (pvC b)), .row 0 20 (ofL (numC a)), .row 0 20 (ofL (numC b))]⟩) (fun i => i ≤ 5 ∧ ∀ j, j < i → a.num j = b.num j) (fun i => 5 - i) 0 ⟨by omega, by omega⟩
    (sub_mk rfl (by simp [subL, I]) (by simp [subT, look, I]) (by simp [pvC, numC, pts_def, bools_def, ints_def, I])) ?_
  rintro i ⟨hi, hok⟩ next
  have sz : ∀ p : PV, p.small → ∀ j, (p.num j).sz < 4611686018427387904 := fun p hs j => by
    have := hs.tol; have := hs.light; have := hs.heavy; have := hs.strength; have := hs.rough
    match j with
    | 0 => show p.tol.sz < _; omega
    | 1 => show p.light.sz < _; omega
    | 2 => show p.heavy.sz < _; omega
    | 3 => show p.strength.sz < _; omega
    | j + 4 => show p.rough.sz < _; omega
  have w0 : IntKind.i64.wrap (0 + 1) = 1 := by decide
  have w1 : IntKind.i64.wrap (1 + 1) = 2 := by decide
  have w2 : IntKind.i64.wrap (2 + 1) = 3 := by decide
  have w3 : IntKind.i64.wrap (3 + 1) = 4 := by decide
  have w4 : IntKind.i64.wrap (4 + 1) = 5 := by decide
  have e0 : ((0 : Nat) : Int) = 0 := rfl
  have e1 : ((1 : Nat) : Int) = 1 := rfl
  have e2 : ((2 : Nat) : Int) = 2 := rfl
  have e3 : ((3 : Nat) : Int) = 3 := rfl
  have e4 : ((4 : Nat) : Int) = 4 := rfl
  have e5 : ((5 : Nat) : Int) = 5 := rfl
  have t1 : (1 : Int).toNat = 1 := rfl
  have t2 : (2 : Int).toNat = 2 := rfl
  have t3 : (3 : Int).toNat = 3 := rfl
  have t4 : (4 : Int).toNat = 4 := rfl
  by_cases hi5 : i < 5
  · have c1 := rsame_fn (a.num i) (b.num i) (sz a ha i) (sz b hb i)
    have hcase : i = 0 ∨ i = 1 ∨ i = 2 ∨ i = 3 ∨ i = 4 := by omega
    by_cases hv : a.num i = b.num i
    rotate_left
    · rw [decide_eq_false hv] at c1
      have hb : false = V := by
        rw [hV, decide_eq_false]
        intro e
        exact hv (by rw [e])
      rcases hcase with rfl | rfl | rfl | rfl | rfl
      all_goals
        refine vc_soundN 1000 ?_
        simp only [pvC, numC, e0, e1, e2, e3, e4, e5, t1, t2, t3, t4, w0, w1, w2, w3, w4, Int.reduceLT, Int.reduceLE, Int.toNat_zero, ↓wPre, wA, ↓reduceIte, reduceIte, reduceCtorEq, Y1, Y2, Y3, Y4, Y5, Y6, Y7, Y8, Y9, YA, wE]
        refine call_fn c1 rfl ?_
        simp only [↓wPre, wA, ↓reduceIte, reduceIte, reduceCtorEq, Y1, Y2, Y3, Y4, Y5, Y6, Y7, Y8, Y9, YA, wE]
        exact fin rfl hb
    rw [decide_eq_true hv] at c1
    have nx := next (i + 1)
    rcases hcase with rfl | rfl | rfl | rfl | rfl
    all_goals
      refine vc_soundN 1000 ?_
      simp only [pvC, numC, e0, e1, e2, e3, e4, e5, t1, t2, t3, t4, w0, w1, w2, w3, w4, Int.reduceLT, Int.reduceLE, Int.toNat_zero, ↓wPre, wA, ↓reduceIte, reduceIte, reduceCtorEq, Y1, Y2, Y3, Y4, Y5, Y6, Y7, Y8, Y9, YA, wE]
      refine call_fn c1 rfl ?_
      simp only [w0, w1, w2, w3, w4, ↓wPre, wA, ↓reduceIte, reduceIte, reduceCtorEq, Y1, Y2, Y3, Y4, Y5, Y6, Y7, Y8, Y9, YA, wE]
      refine nx _ ⟨by omega, fun j hj => ?_⟩ (by omega) (sub_mk rfl (by simp [subL, I]) (by simp [subT, look, I]) (by simp [pvC, numC, pts_def, bools_def, ints_def, I]))
      rcases Nat.lt_succ_iff_lt_or_eq.1 hj with h | h
      · exact hok j h
      · rw [h]; exact hv
  obtain rfl : i = 5 := by omega
  have hnum : a.tol = b.tol ∧ a.light = b.light ∧ a.heavy = b.heavy ∧ a.strength = b.strength ∧ a.rough = b.rough := ⟨hok 0 (by omega), hok 1 (by omega), hok 2 (by omega), hok 3 (by omega), hok 4 (by omega)⟩
  have hV' : V = decide (a.id = b.id ∧ a.home = b.home ∧ a.rim = b.rim ∧ a.worn = b.worn ∧ a.marks = b.marks) := by
    rw [hV, decide_eq_decide, PV.eq_iff]
    exact ⟨fun h => h.2, fun h => ⟨hnum, h⟩⟩
  have no : ∀ {q : Prop}, (a.id = b.id ∧ a.home = b.home ∧ a.rim = b.rim ∧ a.worn = b.worn ∧ a.marks = b.marks → q) → ¬ q → false = V := fun h hq => by rw [hV', decide_eq_false fun hh => hq (h hh)]
  refine vc_soundN 1000 ?_
  by_cases h1 : a.id = b.id
  rotate_left
  · have f1 : (a.id = b.id) = False := eq_false h1
    simp only [pvC, numC, e5, f1, Int.lt_irrefl, ↓wPre, wA, ↓reduceIte, reduceIte, reduceCtorEq, Y1, Y2, Y3, Y4, Y5, Y6, Y7, Y8, Y9, YA, wE]
    exact fin rfl (no (fun h => h.1) h1)
  have f1 : (a.id = b.id) = True := eq_true h1
  by_cases h2 : a.home = b.home
  rotate_left
  · have f2 : (a.home = b.home) = False := eq_false h2
    simp only [pvC, numC, e5, f1, f2, Int.lt_irrefl, ↓wPre, wA, ↓reduceIte, reduceIte, reduceCtorEq, Y1, Y2, Y3, Y4, Y5, Y6, Y7, Y8, Y9, YA, wE]
    exact fin rfl (no (fun h => h.2.1) h2)
  have f2 : (a.home = b.home) = True := eq_true h2
  simp only [pvC, numC, e5, f1, f2, Int.lt_irrefl, ↓wPre, wA, ↓reduceIte, reduceIte, reduceCtorEq, Y1, Y2, Y3, Y4, Y5, Y6, Y7, Y8, Y9, YA, wE]
  have b1 := ha.rim; have b2 := hb.rim; have b3 := ha.worn; have b4 := hb.worn; have b5 := ha.marks; have b6 := hb.marks
  refine call_fn (eqPts_fn a.rim b.rim (by omega) (by omega)) rfl ?_
  by_cases h3 : a.rim = b.rim
  rotate_left
  · rw [decide_eq_false h3]
    simp only [↓wPre, wA, ↓reduceIte, reduceIte, reduceCtorEq, Y1, Y2, Y3, Y4, Y5, Y6, Y7, Y8, Y9, YA, wE]
    exact fin rfl (no (fun h => h.2.2.1) h3)
  rw [decide_eq_true h3]
  simp only [↓wPre, wA, ↓reduceIte, reduceIte, reduceCtorEq, Y1, Y2, Y3, Y4, Y5, Y6, Y7, Y8, Y9, YA, wE]
  refine call_fn (eqBools_fn a.worn b.worn (by omega) (by omega)) rfl ?_
  by_cases h4 : a.worn = b.worn
  rotate_left
  · rw [decide_eq_false h4]
    simp only [↓wPre, wA, ↓reduceIte, reduceIte, reduceCtorEq, Y1, Y2, Y3, Y4, Y5, Y6, Y7, Y8, Y9, YA, wE]
    exact fin rfl (no (fun h => h.2.2.2.1) h4)
  rw [decide_eq_true h4]
  simp only [↓wPre, wA, ↓reduceIte, reduceIte, reduceCtorEq, Y1, Y2, Y3, Y4, Y5, Y6, Y7, Y8, Y9, YA, wE]
  refine call_fn (eqInts_fn a.marks b.marks (by omega) (by omega)) rfl ?_
  simp only [↓wPre, wA, ↓reduceIte, reduceIte, reduceCtorEq, Y1, Y2, Y3, Y4, Y5, Y6, Y7, Y8, Y9, YA, wE]
  refine fin rfl ?_
  rw [hV', decide_eq_decide]
  exact ⟨fun h => ⟨h1, h2, h3, h4, h⟩, fun h => h.2.2.2.2⟩
end
end Go.Ab.N
namespace Go.Ab.N
open Go Go.RowKit Go.Proofs
noncomputable section
set_option maxRecDepth 10000
set_option maxHeartbeats 4000000
open Classical

/-! ### Casts -/
def likeP (p c : PV) : PV := ⟨p.id, p.home, c.rim, c.worn, c.marks, p.tol, c.light, c.heavy, c.strength, c.rough⟩
theorem likeP_small {p c : PV} (hp : p.small) (hc : c.small) : (likeP p c).small := ⟨hc.rim, hc.worn, hc.marks, hp.tol, hc.light, hc.heavy, hc.strength, hc.rough⟩
theorem is_fn (p c : PV) (hp : p.small) (hc : c.small) {a b : Rat} (ea : p.tol = RQ.of a) (eb : c.tol = RQ.of b) : Fn Tryz.prog 21 [pvA p, pvA c] (.bool (decide (p = likeP p c ∧ a ≤ b))) := by
  have c1 := psame_fn p (likeP p c) hp (likeP_small hp hc)
  have c2 := rcmpR eb ea hc.tol hp.tol
  obtain ⟨V, hV⟩ : ∃ V, V = decide (p = likeP p c ∧ a ≤ b) := ⟨_, rfl⟩
  have fin : ∀ {s : AS} {v : Bool}, s.get 4 = .bool v → v = V → RetOk (envP Tryz.prog Tryz.f21 [2, 30000002] [] (.bool V)) s := fun h e => ret1E rfl h (settled_bool _) (by rw [e])
  rw [← hV]
  refine Fn.intro (fn := Tryz.f21) Tryz.call21 Tryz.func21 rfl mixed 6 [] [2, 30000002] [] (by kernel_rfl) (Nat.le_of_ble_eq_true rfl) (by simp [settled_pvA]) (vc_soundN 1000 ?_)
  simp only [AS.start, pvA, pvC, ↓wPre, wA, ↓reduceIte, reduceIte, reduceCtorEq, Y1, Y2, Y3, Y4, Y5, Y6, Y7, Y8, Y9, YA, wE]
  refine call_fn c1 rfl ?_
  by_cases h : p = likeP p c
  rotate_left
  · rw [decide_eq_false h]
    simp only [↓wPre, wA, ↓reduceIte, reduceIte, reduceCtorEq, Y1, Y2, Y3, Y4, Y5, Y6, Y7, Y8, Y9, YA, wE]
    exact fin rfl (by rw [hV, decide_eq_false fun hh => h hh.1])
  rw [decide_eq_true h]
  simp only [↓wPre, wA, ↓reduceIte, reduceIte, reduceCtorEq, Y1, Y2, Y3, Y4, Y5, Y6, Y7, Y8, Y9, YA, wE]
  refine call_fn c2 rfl ?_
  simp only [↓wPre, wA, ↓reduceIte, reduceIte, reduceCtorEq, Y1, Y2, Y3, Y4, Y5, Y6, Y7, Y8, Y9, YA, wE]
  refine fin rfl ?_
  rw [hV, decide_eq_decide]
  exact ⟨fun hh => ⟨h, (qcmp_ge _ _).1 hh⟩, fun hh => (qcmp_ge _ _).2 hh.2⟩
def zeroQ : RQ := ⟨false, [], false, []⟩
def zeroP : PV := ⟨0, 0, [], [], [], zeroQ, zeroQ, zeroQ, zeroQ, zeroQ⟩
theorem weak_em {f g : Nat → AV} {t : Bool} : Weak (.sl 0 0 f t) (.sl 0 0 g false) := weak_slW rfl (Nat.le_refl _) fun j hj => absurd hj (Nat.not_lt_zero j)
def zeroL : List AV := [I 0, I 0, .sl 0 0 (fun _ => .any) false, .sl 0 0 (fun _ => .any) false, .sl 0 0 (fun _ => .any) false, .bool false, .sl 0 0 (fun _ => .any) false, .bool false, .sl 0 0 (fun _ => .any) false, .bool false, .sl 0 0 (fun _ => .any) false, .bool false, .sl 0 0 (fun _ => .any) false,
  .bool false, .sl 0 0 (fun _ => .any) false, .bool false, .sl 0 0 (fun _ => .any) false, .bool false, .sl 0 0 (fun _ => .any) false, .bool false, .sl 0 0 (fun _ => .any) false, .bool false, .sl 0 0 (fun _ => .any) false, .bool false, .sl 0 0 (fun _ => .any) false]
theorem weak_zero : WeakL zeroL (pvC zeroP) :=
  ⟨Weak.rfl' _, Weak.rfl' _, weak_em, weak_em, weak_em, Weak.rfl' _, weak_em, Weak.rfl' _, weak_em, Weak.rfl' _, weak_em, Weak.rfl' _, weak_em, Weak.rfl' _, weak_em, Weak.rfl' _, weak_em, Weak.rfl' _, weak_em, Weak.rfl' _, weak_em, Weak.rfl' _, weak_em, Weak.rfl' _, weak_em, trivial⟩
def castC (p : PV) (id home : Int) (t : Rat) : PV := ⟨id, home, p.rim, p.worn, p.marks, RQ.of t, p.light, p.heavy, p.strength, p.rough⟩
/-- A cast, as the program makes it. -/
def castOf (p : PV) (id home : Int) (a : Rat) (x : RQ) : PV × Int :=
  if h : ∃ q : Rat, x = RQ.of q ∧ 0 ≤ q then
    let c := castC p id home (a + h.choose)
    if pieceErr c = 0 then (c, 0) else (zeroP, 1)
  else (zeroP, 1)
theorem castof_fn (p : PV) (hp : p.small) (id home : Int) (x : RQ) (hx : x.sz ≤ 100000) {a : Rat} (ea : p.tol = RQ.of a) (ha : qb a ≤ 100000) :
    Fn Tryz.prog 18 [pvA p, I id, I home, x.A] (.tup [pvA (castOf p id home a x).1, I (castOf p id home a x).2]) := by
  obtain ⟨R, hR⟩ : ∃ R, R = castOf p id home a x := ⟨_, rfl⟩
  rw [← hR]
  have hbad : (¬ ∃ q : Rat, x = RQ.of q ∧ 0 ≤ q) → R = (zeroP, 1) := fun h => by
    rw [hR]; unfold castOf; rw [dif_neg h]
  have zret : ∀ {s : AS} {ver id' : Nat}, s.get 8 = .ref id' ver 0 → s.h[id']? = some (.row ver 25 (ofL zeroL)) → s.get 9 = I 1 → R = (zeroP, 1) → RetOk (envP Tryz.prog Tryz.f18 [5, 60000004] [] (.tup [pvA R.1, I R.2])) s := fun h1 h2 h3 h4 => by
    subst h4
    exact retRef2 rfl (resAt_ref ldk30 h1 h2 rfl) (by unfold resAt; rfl) (sees_of_weak (settled_pvA _) (weak_agg weak_zero)) (by rw [h3]; exact (settled_I _).sees _)
  have c1 := rvalid_fn x (by omega)
  refine Fn.intro (fn := Tryz.f18) Tryz.call18 Tryz.func18 rfl mixed 11 [] [5, 60000004] [] (by kernel_rfl) (Nat.le_of_ble_eq_true rfl) (by simp [settled_pvA, settled_RQ, settled_I]) (vc_soundN 1000 ?_)
  simp only [AS.start, pvA, pvC, RQ.A, RQ.L, ↓wPre, wA, ↓reduceIte, reduceIte, reduceCtorEq, Y1, Y2, Y3, Y4, Y5, Y6, Y7, Y8, Y9, YA, wE]
  refine call_fn c1 rfl ?_
  by_cases hv : x.ok
  rotate_left
  · rw [decide_eq_false hv]
    simp only [↓wPre, wA, ↓reduceIte, reduceIte, reduceCtorEq, Y1, Y2, Y3, Y4, Y5, Y6, Y7, Y8, Y9, YA, wE]
    exact zret rfl rfl rfl (hbad fun ⟨q, hq, _⟩ => hv ⟨q, hq⟩)
  obtain ⟨q, hq⟩ := hv
  rw [decide_eq_true ⟨q, hq⟩]
  have c2 := rsignR hq
  simp only [↓wPre, wA, ↓reduceIte, reduceIte, reduceCtorEq, Y1, Y2, Y3, Y4, Y5, Y6, Y7, Y8, Y9, YA, wE]
  refine call_fn c2 rfl ?_
  by_cases hn : q.num.sign < 0
  · have f1 : (q.num.sign < 0) = True := eq_true hn
    simp only [f1, ↓wPre, wA, ↓reduceIte, reduceIte, reduceCtorEq, Y1, Y2, Y3, Y4, Y5, Y6, Y7, Y8, Y9, YA, wE]
    refine zret rfl rfl rfl (hbad fun ⟨q', hq', h'⟩ => ?_)
    have := RQ.of_inj (hq'.symm.trans hq); subst this
    exact Rat.not_lt.2 h' ((sign_lt _).1 hn)
  have f1 : (q.num.sign < 0) = False := eq_false hn
  simp only [f1, ↓wPre, wA, ↓reduceIte, reduceIte, reduceCtorEq, Y1, Y2, Y3, Y4, Y5, Y6, Y7, Y8, Y9, YA, wE]
  have hsq : qb q ≤ 100003 := by
    have := qb_of_sz q
    rw [← hq] at this; omega
  have c3 := radd_fn a q (by unfold rm; omega) (by unfold rm; omega)
  have c3' : Fn Tryz.prog 70 [p.tol.A, x.A] (qA (a + q)) := by rw [ea, hq]; exact c3
  refine call_fn c3' rfl ?_
  simp only [↓wPre, wA, ↓reduceIte, reduceIte, reduceCtorEq, Y1, Y2, Y3, Y4, Y5, Y6, Y7, Y8, Y9, YA, wE]
  have b1 := hp.rim; have b2 := hp.worn; have b3 := hp.marks
  refine call_fn (clonep_fn p.rim b1) rfl ?_
  simp only [↓wPre, wA, ↓reduceIte, reduceIte, reduceCtorEq, Y1, Y2, Y3, Y4, Y5, Y6, Y7, Y8, Y9, YA, wE]
  refine call_fn (cloneb_fn p.worn b2) rfl ?_
  simp only [↓wPre, wA, ↓reduceIte, reduceIte, reduceCtorEq, Y1, Y2, Y3, Y4, Y5, Y6, Y7, Y8, Y9, YA, wE]
  refine call_fn (clonei_fn p.marks b3) rfl ?_
  simp only [↓wPre, wA, ↓reduceIte, reduceIte, reduceCtorEq, Y1, Y2, Y3, Y4, Y5, Y6, Y7, Y8, Y9, YA, wE]
  have hRc : R = if pieceErr (castC p id home (a + q)) = 0 then (castC p id home (a + q), 0) else (zeroP, 1) := by
    rw [hR]
    have hex : ∃ q : Rat, x = RQ.of q ∧ 0 ≤ q := ⟨q, hq, by rw [← Rat.not_lt, ← sign_lt]; exact hn⟩
    unfold castOf
    rw [dif_pos hex]
    have : hex.choose = q := RQ.of_inj (hex.choose_spec.1.symm.trans hq)
    rw [this]
  have hsm : (castC p id home (a + q)).small := ⟨b1, b2, b3, by
    have h1 := RQ.of_sz (a + q)
    have h2 := qb_add a q
    show (RQ.of (a + q)).sz ≤ _
    omega, hp.light, hp.heavy, hp.strength, hp.rough⟩
  refine call_fn (piece_valid_fn (castC p id home (a + q)) hsm) rfl ?_
  by_cases he : pieceErr (castC p id home (a + q)) = 0
  rotate_left
  · have f2 : (pieceErr (castC p id home (a + q)) = 0) = False := eq_false he
    simp only [f2, ↓wPre, wA, ↓reduceIte, reduceIte, reduceCtorEq, Y1, Y2, Y3, Y4, Y5, Y6, Y7, Y8, Y9, YA, wE]
    exact zret rfl rfl rfl (by rw [hRc, if_neg he])
  have f2 : (pieceErr (castC p id home (a + q)) = 0) = True := eq_true he
  simp only [f2, ↓wPre, wA, ↓reduceIte, reduceIte, reduceCtorEq, Y1, Y2, Y3, Y4, Y5, Y6, Y7, Y8, Y9, YA, wE]
  rw [if_pos he] at hRc
  subst hRc
  exact retRef2 rfl (resAt_ref ldk30 rfl rfl rfl) (by unfold resAt; rfl) (sees_of_weak (settled_pvA _) (weak_agg (weakL_rfl (pvC (castC p id home (a + q)))))) ((settled_I _).sees _)
end
end Go.Ab.N
namespace Go.Ab.N
open Go Go.RowKit Go.Proofs
noncomputable section
set_option maxRecDepth 10000
set_option maxHeartbeats 4000000
open Classical

/-! ### Debts -/
def dC (d : Int × Int × Int) : List AV := [I d.1, I d.2.1, I d.2.2]
def debts (l : List (Int × Int × Int)) : AV := sls dC 3 (0, 0, 0) l
theorem settled_dC (d : Int × Int × Int) : ∀ x ∈ dC d, Settled x := by simp [dC, settled_I]
theorem settled_debts (l : List (Int × Int × Int)) : Settled (debts l) := settled_sls settled_dC
theorem debts_def (l : List (Int × Int × Int)) : debts l = .sl l.length (l.length * 3) (slFs dC 3 (0, 0, 0) l) false := nrfl rfl
theorem dF (l : List (Int × Int × Int)) (i : Nat) : slFs dC 3 (0, 0, 0) l (i * 3) = I (l.getD i (0, 0, 0)).1 ∧ slFs dC 3 (0, 0, 0) l (i * 3 + 1) = I (l.getD i (0, 0, 0)).2.1 ∧ slFs dC 3 (0, 0, 0) l (i * 3 + 2) = I (l.getD i (0, 0, 0)).2.2 := by
  refine ⟨?_, ?_, ?_⟩
  · rw [slFs_at0 _ _ _ _ _ (by omega)]; rfl
  all_goals rw [slFs_at _ _ _ _ _ _ (by omega)]; rfl
/-- What a piece stands for. -/
def standN (ps : List Int) (n : Nat) (c : Int) : Option Int := if 0 ≤ c ∧ c < n ∧ 0 ≤ ps.getD c.toNat 0 then some (ps.getD c.toNat 0) else none
def standG (ps : List Int) (n : Nat) (c : Int) : Option AV := (standN ps n c).map I
def owes (ps : List Int) (k c : Int) : List (Int × Int × Int) := match standN ps ps.length c with
  | some p => [(k, c, p)]
  | none => []
def heapD (G : Int → Option AV) (D : List (Int × Int × Int)) : List AO := [.map .i64 G, .row 0 1 (ofL [.mp 0]), .row 0 1 (ofL [.osl 3 D.length 3 0 D.length]), .row D.length (D.length * 3) (slFs dC 3 (0, 0, 0) D)]
theorem retC0 {P : Program} {fn : Func} {str hcs : List Nat} {m : Nat} {H : List AO} {s : AS} (hr : fn.results = #[]) (hH : s.h.take m = H) : RetOk (envC P fn str hcs m (.tup []) H) s :=
  ⟨.tup [], by simp [resX, resV, envC, hr, resList, packR], rfl, hH⟩
theorem owe_own (ps : List Int) (D : List (Int × Int × Int)) (k c : Int) (hD : D.length < 1000000) :
    HCall Tryz.prog 187 [I k, I c, .ref 1 0 0, .ref 2 0 0] (heapD (standG ps ps.length) D) (.tup []) (heapD (standG ps ps.length) (D ++ owes ps k c)) := by
  have hG : belO 4 (.map .i64 (standG ps ps.length)) = True := eq_true fun n a h => by
    unfold standG at h
    simp only [Option.map_eq_some_iff] at h
    obtain ⟨x, _, rfl⟩ := h
    exact bel_of_settled (settled_I _)
  have hR : ∀ v n l, belO 4 (.row v n (slFs dC 3 (0, 0, 0) l)) = True := fun v n l => eq_true fun j _ => bel_of_settled (settled_cells (settled_dC _) _)
  obtain ⟨D', hD'⟩ : ∃ D', D' = D ++ owes ps k c := ⟨_, rfl⟩
  rw [← hD']
  refine HCall.introC (fn := Tryz.f187) Tryz.call187 Tryz.func187 rfl mixed 8 [] [] [] (by kernel_rfl) (Nat.le_of_ble_eq_true rfl) (by simp [wBel]) (by simp [heapD, wBel, hG, hR]) (vc_soundN 1000 ?_)
  cases hs : standN ps ps.length c with
  | none =>
    have f1 : standG ps ps.length c = none := by unfold standG; rw [hs]; rfl
    have ho : owes ps k c = [] := by unfold owes; rw [hs]
    simp only [AS.start, heapD, f1, ↓wPre, wA, ↓reduceIte, reduceIte, reduceCtorEq, Y1, Y2, Y3, Y4, Y5, Y6, Y7, Y8, Y9, YA, wE]
    exact retC0 rfl (by rw [hD', ho, List.append_nil]; rfl)
  | some p =>
    have f1 : standG ps ps.length c = some (I p) := by unfold standG; rw [hs]; rfl
    have ho : owes ps k c = [(k, c, p)] := by unfold owes; rw [hs]
    have hl : (D ++ [(k, c, p)]).length = D.length + 1 := by simp
    have hap := appFs_one dC 3 (0, 0, 0) D (k, c, p) (by omega)
    simp only [AS.start, heapD, f1, ↓wPre, wA, ↓reduceIte, reduceIte, reduceCtorEq, Y1, Y2, Y3, Y4, Y5, Y6, Y7, Y8, Y9, YA, wE]
    refine ⟨⟨fun j hj => ?_, by omega, by omega⟩, retC0 rfl ?_⟩
    · match j, hj with
      | 0, _ => rfl
      | 1, _ => rfl
      | 2, _ => rfl
      | j + 3, h => omega
    · rw [hD', ho, hl, ← hap]; rfl
def owesP (ps : List Int) (k : Int) (j : Int × Int) : List (Int × Int × Int) := owes ps k j.1 ++ owes ps k j.2
/-- The debts of the first joins. -/
def debtsN (js : List (Int × Int)) (ps : List Int) : Nat → List (Int × Int × Int)
  | 0 => []
  | n + 1 => debtsN js ps n ++ owesP ps n (js.getD n (0, 0))
theorem owes_len (ps : List Int) (k c : Int) : (owes ps k c).length ≤ 1 := by unfold owes; split <;> simp
theorem debtsN_len (js : List (Int × Int)) (ps : List Int) : ∀ n, (debtsN js ps n).length ≤ 2 * n
  | 0 => by simp [debtsN]
  | n + 1 => by
    have h1 := debtsN_len js ps n
    have h2 := owes_len ps n (js.getD n (0, 0)).1
    have h3 := owes_len ps n (js.getD n (0, 0)).2
    simp only [debtsN, owesP, List.length_append]
    omega
theorem standG_succ (ps : List Int) (n : Nat) (hn : n < ps.length) (h : 0 ≤ ps.getD n 0) : updK (standG ps n) n (I (ps.getD n 0)) = standG ps (n + 1) := by
  funext c
  unfold updK standG standN
  by_cases hc : c = n
  · rw [if_pos hc, if_pos (by rw [hc]; simp only [Int.toNat_natCast]; omega), hc]; rfl
  · rw [if_neg hc]
    congr 1
    by_cases h1 : 0 ≤ c ∧ c < n ∧ 0 ≤ ps.getD c.toNat 0
    · rw [if_pos h1, if_pos (by omega)]
    · rw [if_neg h1, if_neg (by omega)]
theorem standG_skip (ps : List Int) (n : Nat) (h : ¬ 0 ≤ ps.getD n 0) : standG ps n = standG ps (n + 1) := by
  funext c
  unfold standG standN
  congr 1
  by_cases h1 : 0 ≤ c ∧ c < n ∧ 0 ≤ ps.getD c.toNat 0
  · rw [if_pos h1, if_pos (by omega)]
  · rw [if_neg h1, if_neg]
    rintro ⟨h2, h3, h4⟩
    by_cases h5 : c = n
    · rw [h5, Int.toNat_natCast] at h4; exact h h4
    · exact h1 ⟨h2, by omega, h4⟩
theorem debts_fn (js : List (Int × Int)) (ps : List Int) (hj : js.length < 100000) (hp : ps.length < 9223372036854775808) : Fn Tryz.prog 97 [pts js, ints ps] (debts (debtsN js ps js.length)) := by
  obtain ⟨R, hR⟩ : ∃ R, R = debts (debtsN js ps js.length) := ⟨_, rfl⟩
  have sR : Settled R := hR ▸ settled_debts _
  rw [← hR]
  refine Fn.intro (fn := Tryz.f97) Tryz.call97 Tryz.func97 rfl mixed 12 [13, 14, 15, 27, 28, 29] [] [] (by kernel_rfl) (Nat.le_of_ble_eq_true rfl) (by simp [settled_pts, settled_ints]) (vc_soundN 1000 ?_)
  simp only [AS.start, ↓wPre, wA, ↓reduceIte, reduceIte, reduceCtorEq, Y1, Y2, Y3, Y4, Y5, Y6, Y7, Y8, Y9, YA, wE]
  refine run_loop (fun i : Nat => ⟨12, [13, 14, 15, 27, 28, 29], [pts js, ints ps, .any, .any, .any, .ref 1 0 0, .any, .any, .any, .any, .any, .any], [(13, ints ps), (14, I ps.length), (15, I i)], [.map .i64 (standG ps i), .row 0 1 (ofL [.mp 0])]⟩) (fun i => i ≤ ps.length) (fun i => ps.length - i) 0 (by omega)
    (sub_mk rfl (by simp [subL, pts_def, ints_def, I]) (by simp [subT, look, ints_def, I]) ?_) ?_
  · have : standG ps 0 = fun _ => none := by
      funext c
      unfold standG standN
      rw [if_neg (by omega)]; rfl
    rw [this]
  · intro i hi next
    by_cases hi2 : i < ps.length
    · have w1 : IntKind.i64.wrap ((i : Int) + 1) = ((i + 1 : Nat) : Int) := by rw [IntKind.wrap_i64]; omega
      have f1 : ((i : Int) < ps.length) = True := eq_true (by omega)
      have f2 : (i < ps.length) = True := eq_true hi2
      by_cases h0 : 0 ≤ ps.getD i 0
      · have f3 : (0 ≤ ps.getD i 0) = True := eq_true h0
        have hup := standG_succ ps i hi2 h0
        refine vc_soundN 1000 ?_
        simp only [ints_def, w1, f1, f2, f3, Int.toNat_natCast, ↓wPre, wA, ↓reduceIte, reduceIte, reduceCtorEq, Y1, Y2, Y3, Y4, Y5, Y6, Y7, Y8, Y9, YA, wE]
        exact next (i + 1) _ (by omega) (by omega) (sub_mk rfl (by simp [subL, ints_def, pts_def]) (by simp [subT, look, ints_def, I]) (by rw [← hup]; rfl))
      · have f3 : (0 ≤ ps.getD i 0) = False := eq_false h0
        have hup := standG_skip ps i h0
        refine vc_soundN 1000 ?_
        simp only [ints_def, w1, f1, f2, f3, Int.toNat_natCast, ↓wPre, wA, ↓reduceIte, reduceIte, reduceCtorEq, Y1, Y2, Y3, Y4, Y5, Y6, Y7, Y8, Y9, YA, wE]
        exact next (i + 1) _ (by omega) (by omega) (sub_mk rfl (by simp [subL, ints_def, pts_def]) (by simp [subT, look, ints_def, I]) (by rw [← hup]))
    obtain rfl : i = ps.length := by omega
    refine vc_soundN 1000 ?_
    simp only [ints_def, Int.lt_irrefl, Nat.lt_irrefl, ↓wPre, wA, ↓reduceIte, reduceIte, reduceCtorEq, Y1, Y2, Y3, Y4, Y5, Y6, Y7, Y8, Y9, YA, wE]
    have ad : ∀ m, Sub m (⟨12, [13, 14, 15, 27, 28, 29], [pts js, ints ps, .any, .any, .any, .ref 1 0 0, .any, .any, .ref 2 0 0, .fn 187 [.ref 1 0 0, .ref 2 0 0], .any, .any], [(29, I 0), (28, I js.length), (27, pts js), (13, ints ps), (14, I ps.length), (15, I ps.length)], [.map .i64 (standG ps ps.length), .row 0 1 (ofL [.mp 0]), .row 0 1 (ofL [.sl 0 0 (fun _ => .any) true])]⟩ : AS) ⟨12, [13, 14, 15, 27, 28, 29], [pts js, ints ps, .any, .any, .any, .ref 1 0 0, .any, .any, .ref 2 0 0, .fn 187 [.ref 1 0 0, .ref 2 0 0], .any, .any], [(29, I 0), (28, I js.length), (27, pts js), (13, ints ps), (14, I ps.length), (15, I ps.length)], heapD (standG ps ps.length) []⟩ := fun m => by
      refine (sub_rowf 2 1 (fun _ => .sl 0 0 (fun _ => .any) true) rfl (Nat.le_refl _) (fun j hj => by obtain rfl : j = 0 := by omega
                                                                                                       rfl)).trans ?_
      refine (sub_adoptc 2 3 (slFs dC 3 (0, 0, 0) []) rfl 1 (Nat.le_refl _)).trans ?_
      refine (sub_rowf 2 1 (ofL [.osl 3 0 3 0 0]) rfl (Nat.le_refl _) (fun j hj => by obtain rfl : j = 0 := by omega
                                                                                      rfl)).trans (sub_mk rfl ?_ ?_ ?_)
      · simp [subL]
      · simp [subT, look]
      · simp [heapD]
    refine Run.sub ?_ (ad _)
    obtain ⟨G, hGe⟩ : ∃ G, G = standG ps ps.length := ⟨_, rfl⟩
    have own := fun D k c h => owe_own ps D k c h
    have hG : belO 4 (.map .i64 G) = True := eq_true fun n a h => by
      rw [hGe] at h
      unfold standG at h
      simp only [Option.map_eq_some_iff] at h
      obtain ⟨x, _, rfl⟩ := h
      exact bel_of_settled (settled_I _)
    have hRo : ∀ v n l, belO 4 (.row v n (slFs dC 3 (0, 0, 0) l)) = True := fun v n l => eq_true fun j _ => bel_of_settled (settled_cells (settled_dC _) _)
    have hJ : Bel 4 (pts js) = True := eq_true (bel_of_settled (settled_pts _))
    rw [← hGe] at own ⊢
    refine run_loop (fun i : Nat => ⟨12, [13, 14, 15, 27, 28, 29], [.any, .any, .any, .any, .any, .any, .any, .any, .ref 2 0 0, .fn 187 [.ref 1 0 0, .ref 2 0 0], .any, .any], [(27, pts js), (28, I js.length), (29, I i)], heapD G (debtsN js ps i)⟩) (fun i => i ≤ js.length) (fun i => js.length - i) 0 (by omega)
      (sub_mk rfl (by simp [subL]) (by simp [subT, look]) rfl) ?_
    intro i hi next
    have w1 := wj i (by omega)
    have hdl := debtsN_len js ps i
    by_cases hi2 : i < js.length
    · have f1 : ((i : Int) < js.length) = True := eq_true (by omega)
      have f2 : (i < js.length) = True := eq_true hi2
      have f3 : (i * 2 + 2 ≤ js.length * 2) = True := eq_true (by omega)
      have v1 := ptF js i
      have z0 : ((0 : Int) < ((2 : Nat) : Int)) = True := eq_true (by omega)
      have z1 : ((1 : Int) < ((2 : Nat) : Int)) = True := eq_true (by omega)
      refine vc_soundN 1000 ?_
      simp only [heapD, z0, z1, w1, f1, f2, f3, v1, Int.toNat_natCast, ↓wPre, wA, ↓reduceIte, reduceIte, reduceCtorEq, Y1, Y2, Y3, Y4, Y5, Y6, Y7, Y8, Y9, YA, wE]
      have hOO : ∀ D, ∀ o ∈ heapD G D, belO 4 o := fun D o ho => by
        simp only [heapD, List.mem_cons, List.not_mem_nil, or_false] at ho
        rcases ho with rfl | rfl | rfl | rfl
        · exact hG ▸ trivial
        · simp [wBel]
        · simp [wBel]
        · exact hRo _ _ _ ▸ trivial
      have hUn : ∀ D, ∀ o ∈ heapD G D, o ≠ .unborn ∧ ∀ v n f, o ≠ .con v n f := fun D o ho => by
        simp only [heapD, List.mem_cons, List.not_mem_nil, or_false] at ho
        rcases ho with rfl | rfl | rfl | rfl <;> exact ⟨by simp, by simp⟩
      have hArg : ∀ a b : Int, ∀ x ∈ [I a, I b, .ref 1 0 0, .ref 2 0 0], Bel 4 x := fun a b x hx => by
        simp only [List.mem_cons, List.not_mem_nil, or_false] at hx
        rcases hx with rfl | rfl | rfl | rfl
        · exact bel_of_settled (settled_I _)
        · exact bel_of_settled (settled_I _)
        · have : Bel 4 (.ref 1 0 0) = True := by simp [wBel]
          exact this ▸ trivial
        · have : Bel 4 (.ref 2 0 0) = True := by simp [wBel]
          exact this ▸ trivial
      have h2 := owes_len ps i (js.getD i (0, 0)).1
      have o1 := own (debtsN js ps i) i (js.getD i (0, 0)).1 (by omega)
      have o2 := own (debtsN js ps i ++ owes ps i (js.getD i (0, 0)).1) i (js.getD i (0, 0)).2 (by rw [List.length_append]; omega)
      refine call_frame (H1 := heapD G (debtsN js ps i)) (H1' := heapD G (debtsN js ps i ++ owes ps i (js.getD i (0, 0)).1)) (rest := [AO.row 0 2 (ofL [I (js.getD i (0, 0)).1, I (js.getD i (0, 0)).2])]) rfl o1 rfl rfl (hArg _ _) (hOO _) (fun o ho => (hUn _ o ho).1) (fun o ho => (hUn _ o ho).1) (conEq_free (fun o ho => (hUn _ o ho).2) (fun o ho => (hUn _ o ho).2)) (weakL_rfl _) ?_
      simp only [heapD, z0, z1, w1, Int.reduceLE, ↓wPre, wA, ↓reduceIte, reduceIte, reduceCtorEq, Y1, Y2, Y3, Y4, Y5, Y6, Y7, Y8, Y9, YA, wE]
      refine call_frame (H1 := heapD G (debtsN js ps i ++ owes ps i (js.getD i (0, 0)).1)) (H1' := heapD G (debtsN js ps i ++ owes ps i (js.getD i (0, 0)).1 ++ owes ps i (js.getD i (0, 0)).2)) (rest := [AO.row 0 2 (ofL [I (js.getD i (0, 0)).1, I (js.getD i (0, 0)).2])]) rfl o2 rfl rfl (hArg _ _) (hOO _) (fun o ho => (hUn _ o ho).1) (fun o ho => (hUn _ o ho).1) (conEq_free (fun o ho => (hUn _ o ho).2) (fun o ho => (hUn _ o ho).2)) (weakL_rfl _) ?_
      simp only [heapD, z0, z1, w1, ↓wPre, wA, ↓reduceIte, reduceIte, reduceCtorEq, Y1, Y2, Y3, Y4, Y5, Y6, Y7, Y8, Y9, YA, wE]
      have hd : debtsN js ps i ++ owes ps i (js.getD i (0, 0)).1 ++ owes ps i (js.getD i (0, 0)).2 = debtsN js ps (i + 1) := by simp only [debtsN, owesP, List.append_assoc]
      refine next (i + 1) _ (by omega) (by omega) (sub_cut (m := 4) (Nat.zero_le _) rfl (by simp [subL]) (by simp [subT, look, pts_def, I]) (by rw [← hd]; rfl) ?_ (by simp [wBel, hJ]) (fun o ho => hOO _ o ho))
      simp [wBel]
    obtain rfl : i = js.length := by omega
    refine vc_soundN 1000 ?_
    simp only [heapD, Int.lt_irrefl, Nat.lt_irrefl, ↓wPre, wA, ↓reduceIte, reduceIte, reduceCtorEq, Y1, Y2, Y3, Y4, Y5, Y6, Y7, Y8, Y9, YA, wE]
    refine ret1 rfl ?_
    rw [hR, debts_def]
    refine sees_osl (n := (debtsN js ps js.length).length) (.inl rfl) (by omega) (fun h => by rw [h]) fun j hj => ?_
    rw [Nat.zero_add]
    exact (settled_cells (settled_dC _) _).sees _
end
end Go.Ab.N
namespace Go.Ab.N
open Go Go.RowKit Go.Proofs
noncomputable section
set_option maxRecDepth 10000
set_option maxHeartbeats 4000000
open Classical

/-! ### Debts, as the law compares them -/
theorem dC_one (d : Int × Int × Int) (j : Nat) (hj : j < 3) : ([AV.int .i64 d.1, .int .i64 d.2.1, .int .i64 d.2.2].getD j .any).one = true := by
  match j, hj with
  | 0, _ => rfl
  | 1, _ => rfl
  | 2, _ => rfl
  | j + 3, h => omega
theorem plain_fn (l : List (Int × Int × Int)) (hl : l.length < 1000000) : Fn Tryz.prog 99 [debts l] (debts l) := by
  obtain ⟨R, hR⟩ : ∃ R, R = debts l := ⟨_, rfl⟩
  refine Fn.intro (fn := Tryz.f99) Tryz.call99 Tryz.func99 rfl mixed 5 [] [] [] (by kernel_rfl) (Nat.le_of_ble_eq_true rfl) (by simp [settled_debts]) (vc_soundN 1000 ?_)
  simp only [AS.start, debts_def, ↓wPre, wA, ↓reduceIte, reduceIte, reduceCtorEq, Y1, Y2, Y3, Y4, Y5, Y6, Y7, Y8, Y9, YA, wE]
  refine run_loop (fun i : Nat => ⟨5, [], [debts l, .any, .any, .osl 0 i 3 0 i, I i], [], [.row i (i * 3) (slFs dC 3 (0, 0, 0) (l.take i))]⟩) (fun i => i ≤ l.length) (fun i => l.length - i) 0 (by omega)
    ((sub_adopt 3 3 (slFs dC 3 (0, 0, 0) []) rfl).trans (sub_mk rfl (by simp [AS.put, subL, debts_def, I]) (by simp [AS.put, subT]) (by simp [AS.put]))) ?_
  intro i hi next
  have w1 := wj i (by omega)
  by_cases hi2 : i < l.length
  · have f1 : ((i : Int) < l.length) = True := eq_true (by omega)
    have f2 : (i < l.length) = True := eq_true hi2
    have f3 : (i * 3 + 3 ≤ l.length * 3) = True := eq_true (by omega)
    have f4 : (i * 3 < l.length * 3) = True := eq_true (by omega)
    have v1 := dF l i
    have hap := appFs_one dC 3 (0, 0, 0) (l.take i) (l.getD i (0, 0, 0)) (by omega)
    have hlen : (l.take i).length = i := by simp; omega
    rw [hlen, ← take_succD _ _ hi2] at hap
    refine vc_soundN 1000 ?_
    simp only [debts_def, w1, f1, f2, f3, f4, v1, Int.toNat_natCast, ↓wPre, wA, ↓reduceIte, reduceIte, reduceCtorEq, Y1, Y2, Y3, Y4, Y5, Y6, Y7, Y8, Y9, YA, wE]
    exact ⟨by omega, by omega, ⟨fun j hj => dC_one _ j hj, by omega, by omega⟩, next (i + 1) _ (by omega) (by omega) (sub_mk rfl (by simp [subL, debts_def, I]) (by simp [subT]) (by rw [← hap]; rfl))⟩
  obtain rfl : i = l.length := by omega
  refine vc_soundN 1000 ?_
  simp only [debts_def, Int.lt_irrefl, Nat.lt_irrefl, ↓wPre, wA, ↓reduceIte, reduceIte, reduceCtorEq, Y1, Y2, Y3, Y4, Y5, Y6, Y7, Y8, Y9, YA, wE]
  refine ret1 rfl ?_
  refine sees_osl (n := l.length) (.inl rfl) (by omega) (fun h => by rw [h]) fun j hj => ?_
  rw [Nat.zero_add, List.take_length]
  exact (settled_cells (settled_dC _) _).sees _
theorem same_fn36 (a b : List (Int × Int × Int)) (la : a.length < 1000000) (lb : b.length < 1000000) : Fn Tryz.prog 98 [debts a, debts b] (.bool (decide (a = b))) := by
  obtain ⟨V, hV⟩ : ∃ V, V = decide (a = b) := ⟨_, rfl⟩
  rw [← hV]
  refine Fn.intro (fn := Tryz.f98) Tryz.call98 Tryz.func98 rfl mixed 6 [] [] [] (by kernel_rfl) (Nat.le_of_ble_eq_true rfl) (by simp [settled_debts]) (vc_soundN 1000 ?_)
  by_cases hl : a.length = b.length
  rotate_left
  · have f1 : ((a.length : Int) = b.length) = False := eq_false (by omega)
    have f1' : (a.length = b.length) = False := eq_false hl
    simp only [AS.start, debts_def, f1, f1', ↓wPre, wA, ↓reduceIte, reduceIte, reduceCtorEq, Y1, Y2, Y3, Y4, Y5, Y6, Y7, Y8, Y9, YA, wE]
    refine ret1E (v := .bool false) rfl rfl (settled_bool _) ?_
    rw [hV, decide_eq_false fun e => hl (by rw [e])]
  have f1 : ((a.length : Int) = b.length) = True := eq_true (by omega)
  have f1' : (a.length = b.length) = True := eq_true hl
  simp only [AS.start, debts_def, f1, f1', ↓wPre, wA, ↓reduceIte, reduceIte, reduceCtorEq, Y1, Y2, Y3, Y4, Y5, Y6, Y7, Y8, Y9, YA, wE]
  refine run_loop (fun j : Nat => ⟨6, [], [debts a, debts b, .any, .any, .any, I j], [], []⟩) (fun j => j ≤ a.length ∧ ∀ i, i < j → a.getD i (0, 0, 0) = b.getD i (0, 0, 0)) (fun j => a.length - j) 0 ⟨by omega, by omega⟩
    (sub_mk rfl (by simp [subL, debts_def, I, hl]) (by simp [subT]) rfl) ?_
  rintro j ⟨hj, hno⟩ next
  have w1 := wj j (by omega)
  by_cases hj2 : j < a.length
  rotate_left
  · have f2 : ((j : Int) < a.length) = False := eq_false (by omega)
    have f3 : (j < a.length) = False := eq_false hj2
    refine vc_soundN 1000 ?_
    simp only [debts_def, w1, f2, f3, ↓wPre, wA, ↓reduceIte, reduceIte, reduceCtorEq, Y1, Y2, Y3, Y4, Y5, Y6, Y7, Y8, Y9, YA, wE]
    refine ret1E (v := .bool true) rfl rfl (settled_bool _) ?_
    rw [hV, decide_eq_true]
    refine List.ext_getElem hl fun i h1 h2 => ?_
    have := hno i (by omega)
    rw [List.getD_eq_getElem?_getD, List.getElem?_eq_getElem h1, List.getD_eq_getElem?_getD, List.getElem?_eq_getElem h2] at this
    exact this
  have f2 : ((j : Int) < a.length) = True := eq_true (by omega)
  have f3 : (j < a.length) = True := eq_true hj2
  have f4 : (j < b.length) = True := eq_true (by omega)
  have f5 : (j * 3 + 3 ≤ a.length * 3) = True := eq_true (by omega)
  have f6 : (j * 3 + 3 ≤ b.length * 3) = True := eq_true (by omega)
  have v1 := dF a j
  have v2 := dF b j
  by_cases he : a.getD j (0, 0, 0) = b.getD j (0, 0, 0)
  · have g1 : ((a.getD j (0, 0, 0)).1 = (b.getD j (0, 0, 0)).1) = True := eq_true (by rw [he])
    have g2 : ((a.getD j (0, 0, 0)).2.1 = (b.getD j (0, 0, 0)).2.1) = True := eq_true (by rw [he])
    have g3 : ((a.getD j (0, 0, 0)).2.2 = (b.getD j (0, 0, 0)).2.2) = True := eq_true (by rw [he])
    refine vc_soundN 1000 ?_
    simp only [debts_def, w1, f2, f3, f4, f5, f6, v1, v2, g1, g2, g3, ↓wPre, wA, ↓reduceIte, reduceIte, reduceCtorEq, Y1, Y2, Y3, Y4, Y5, Y6, Y7, Y8, Y9, YA, wE]
    refine next (j + 1) _ ⟨by omega, fun i hi => ?_⟩ (by omega) (sub_mk rfl (by simp [subL, debts_def, I]) (by simp [subT]) rfl)
    by_cases e : i = j
    · rw [e]; exact he
    · exact hno i (by omega)
  · have bad : false = V := by rw [hV, decide_eq_false fun e => he (by rw [e])]
    refine vc_soundN 1000 ?_
    by_cases g1 : (a.getD j (0, 0, 0)).1 = (b.getD j (0, 0, 0)).1
    · have k1 : ((a.getD j (0, 0, 0)).1 = (b.getD j (0, 0, 0)).1) = True := eq_true g1
      by_cases g2 : (a.getD j (0, 0, 0)).2.1 = (b.getD j (0, 0, 0)).2.1
      · have k2 : ((a.getD j (0, 0, 0)).2.1 = (b.getD j (0, 0, 0)).2.1) = True := eq_true g2
        have k3 : ((a.getD j (0, 0, 0)).2.2 = (b.getD j (0, 0, 0)).2.2) = False := eq_false fun g3 => he (Prod.ext g1 (Prod.ext g2 g3))
        simp only [debts_def, w1, f2, f3, f4, f5, f6, v1, v2, k1, k2, k3, ↓wPre, wA, ↓reduceIte, reduceIte, reduceCtorEq, Y1, Y2, Y3, Y4, Y5, Y6, Y7, Y8, Y9, YA, wE]
        exact ret1E (v := .bool false) rfl rfl (settled_bool _) (by rw [bad])
      · have k2 : ((a.getD j (0, 0, 0)).2.1 = (b.getD j (0, 0, 0)).2.1) = False := eq_false g2
        simp only [debts_def, w1, f2, f3, f4, f5, f6, v1, v2, k1, k2, ↓wPre, wA, ↓reduceIte, reduceIte, reduceCtorEq, Y1, Y2, Y3, Y4, Y5, Y6, Y7, Y8, Y9, YA, wE]
        exact ret1E (v := .bool false) rfl rfl (settled_bool _) (by rw [bad])
    · have k1 : ((a.getD j (0, 0, 0)).1 = (b.getD j (0, 0, 0)).1) = False := eq_false g1
      simp only [debts_def, w1, f2, f3, f4, f5, f6, v1, v2, k1, ↓wPre, wA, ↓reduceIte, reduceIte, reduceCtorEq, Y1, Y2, Y3, Y4, Y5, Y6, Y7, Y8, Y9, YA, wE]
      exact ret1E (v := .bool false) rfl rfl (settled_bool _) (by rw [bad])
end
end Go.Ab.N
namespace Go.Ab.N
open Go Go.RowKit Go.Proofs
noncomputable section
set_option maxRecDepth 10000
set_option maxHeartbeats 4000000
open Classical

/-! ### The section's examples -/
theorem zeroQ_of : zeroQ = RQ.of 0 := by
  unfold zeroQ RQ.of Ab.N.qd
  simp [digs_zero]
def rHalf : Rat := Rat.divInt 1 2
def rOne : Rat := Rat.divInt 1 1
def rTwo : Rat := Rat.divInt 2 1
def tri : PV := ⟨0, 0, [(0, 0), (2, 0), (0, 2)], [false, false, false], [0, 0, 0], RQ.of rHalf, RQ.of rOne, RQ.of rTwo, RQ.of rOne, RQ.of 0⟩
theorem retCellS {P : Program} {fn : Func} {str hcs : List Nat} {r : AV} {s : AS} {t u id ver n : Nat} {L : List AV} (hr : fn.results = #[.cell t u]) (hk : ldk P u = some (some n)) (hs : s.get t = .ref id ver 0)
    (ho : s.h[id]? = some (.row ver n (ofL L))) (hn : L.length = n) (h : Sees s.h (.agg L) r) : RetOk (envP P fn str hcs r) s :=
  ⟨.agg L, by
    have := resAt_ref hk hs ho hn
    simp [resV, envP_P, envP_fn, hr, resList, packR, this], h⟩
theorem triangle_fn : Fn Tryz.prog 96 [] (pvA tri) := by
  have c1 := of04_fn 1 1 ⟨by omega, by omega⟩ ⟨by omega, by omega⟩
  have c2 := of04_fn 1 2 ⟨by omega, by omega⟩ ⟨by omega, by omega⟩
  have c3 := of04_fn 2 1 ⟨by omega, by omega⟩ ⟨by omega, by omega⟩
  refine Fn.intro (fn := Tryz.f96) Tryz.call96 Tryz.func96 rfl mixed 2 [] [2, 30000001] [] (by kernel_rfl) (Nat.le_of_ble_eq_true rfl) (by simp) (vc_soundN 1000 ?_)
  simp only [AS.start, ↓wPre, wA, ↓reduceIte, reduceIte, reduceCtorEq, Y1, Y2, Y3, Y4, Y5, Y6, Y7, Y8, Y9, YA, wE]
  refine call_fn c1 rfl ?_
  simp only [↓wPre, wA, ↓reduceIte, reduceIte, reduceCtorEq, Y1, Y2, Y3, Y4, Y5, Y6, Y7, Y8, Y9, YA, wE]
  refine ⟨⟨by omega, by omega, by omega⟩, ⟨by omega, by omega, by omega⟩, ?_⟩
  refine call_fn c2 rfl ?_
  simp only [↓wPre, wA, ↓reduceIte, reduceIte, reduceCtorEq, Y1, Y2, Y3, Y4, Y5, Y6, Y7, Y8, Y9, YA, wE]
  refine call_fn c3 rfl ?_
  simp only [↓wPre, wA, ↓reduceIte, reduceIte, reduceCtorEq, Y1, Y2, Y3, Y4, Y5, Y6, Y7, Y8, Y9, YA, wE]
  have h1 : ∀ H, Sees H (.sl 3 6 (ofL [I 0, I 0, I 2, I 0, I 0, I 2]) false) (pts tri.rim) := fun H => sees_of_weak (settled_pts _) (weak_slW rfl (Nat.le_refl _) fun j hj => by
    match j, hj with
    | 0, _ => exact Weak.rfl' _
    | 1, _ => exact Weak.rfl' _
    | 2, _ => exact Weak.rfl' _
    | 3, _ => exact Weak.rfl' _
    | 4, _ => exact Weak.rfl' _
    | 5, _ => exact Weak.rfl' _
    | j + 6, h => exact absurd h (by show ¬ j + 6 < 3 * 2; omega))
  have h2 : ∀ (H : List AO), H[2]? = some (.row 0 3 fun _ => .bool false) → Sees H (.osl 2 0 1 0 3) (bools tri.worn) := fun H ho => by
    refine sees_osl (M := 3) (.inl ho) (by omega) (by omega) fun j hj => ?_
    match j, hj with
    | 0, _ => exact (settled_bool _).sees _
    | 1, _ => exact (settled_bool _).sees _
    | 2, _ => exact (settled_bool _).sees _
    | j + 3, h => omega
  have h3 : ∀ (H : List AO), H[3]? = some (.row 0 3 fun _ => .int .i64 0) → Sees H (.osl 3 0 1 0 3) (ints tri.marks) := fun H ho => by
    refine sees_osl (M := 3) (.inl ho) (by omega) (by omega) fun j hj => ?_
    match j, hj with
    | 0, _ => exact (settled_I _).sees _
    | 1, _ => exact (settled_I _).sees _
    | 2, _ => exact (settled_I _).sees _
    | j + 3, h => omega
  have h4 : ∀ (H : List AO) (f : Nat → AV) (t : Bool), Sees H (.sl 0 0 f t) (ints (RQ.of 0).pd) := fun H f t => by
    have e : (RQ.of 0).pd = [] := by rw [← zeroQ_of]; rfl
    rw [e]; exact sees_of_weak (settled_ints _) (weak_emp _ _)
  have h5 : ∀ (H : List AO) (f : Nat → AV) (t : Bool), Sees H (.sl 0 0 f t) (ints (RQ.of 0).qd) := fun H f t => by
    have e : (RQ.of 0).qd = [] := by rw [← zeroQ_of]; rfl
    rw [e]; exact sees_of_weak (settled_ints _) (weak_emp _ _)
  have h6 : ∀ (H : List AO), Sees H (.bool false) (.bool (RQ.of 0).pn) := fun H => by
    have e : (RQ.of 0).pn = false := by rw [← zeroQ_of]; rfl
    rw [e]; exact (settled_bool _).sees _
  refine retCellS rfl ldk30 rfl rfl rfl ?_
  exact sees_agg ⟨(settled_I _).sees _, (settled_I _).sees _, h1 _, h2 _ rfl, h3 _ rfl, (settled_bool _).sees _, (settled_ints _).sees _, (settled_bool _).sees _, (settled_ints _).sees _, (settled_bool _).sees _, (settled_ints _).sees _, (settled_bool _).sees _, (settled_ints _).sees _, (settled_bool _).sees _, (settled_ints _).sees _, (settled_bool _).sees _, (settled_ints _).sees _, (settled_bool _).sees _, (settled_ints _).sees _, (settled_bool _).sees _, (settled_ints _).sees _, h6 _, h4 _ _ _, (settled_bool _).sees _, h5 _ _ _, trivial⟩
end
end Go.Ab.N
namespace Go.Ab.N
open Go Go.RowKit Go.Proofs
noncomputable section
set_option maxRecDepth 10000
set_option maxHeartbeats 4000000
open Classical

/-! ### The examples hold -/
theorem qb_div (p q : Int) (hp : in64 p) (hq : in64 q) : qb (Rat.divInt p q) ≤ 3 := qb_divInt _ _ _ (by omega) (bl_i64 hp) (bl_i64 hq)
theorem sz_div (p q : Int) (hp : in64 p) (hq : in64 q) : (RQ.of (Rat.divInt p q)).sz ≤ 3 := Nat.le_trans (RQ.of_sz _) (qb_div p q hp hq)
theorem tri_small : tri.small := by
  have h1 := sz_div 1 2 ⟨by omega, by omega⟩ ⟨by omega, by omega⟩
  have h2 := sz_div 1 1 ⟨by omega, by omega⟩ ⟨by omega, by omega⟩
  have h3 := sz_div 2 1 ⟨by omega, by omega⟩ ⟨by omega, by omega⟩
  have h4 : (RQ.of 0).sz ≤ 0 := by rw [← zeroQ_of]; exact Nat.le_refl _
  exact ⟨by show 3 < _; omega, by show 3 < _; omega, by show 3 < _; omega, by show (RQ.of (Rat.divInt 1 2)).sz ≤ _; omega, by show (RQ.of (Rat.divInt 1 1)).sz ≤ _; omega, by show (RQ.of (Rat.divInt 2 1)).sz ≤ _; omega, by show (RQ.of (Rat.divInt 1 1)).sz ≤ _; omega, by show (RQ.of 0).sz ≤ _; omega⟩
def cst : PV := castC tri 7 1 (rHalf + Rat.divInt 1 4)
theorem tri_poly : polyOk (rimV tri.rim) := by
  refine ⟨⟨by decide, by decide⟩, fun i hi => ?_, by decide +kernel⟩
  have hi' : i < 3 := hi
  have h : ∀ i, i < 3 → ¬ badSide (rimV tri.rim) i := by
    intro i hi
    match i, hi with
    | 0, _ => unfold badSide; decide +kernel
    | 1, _ => unfold badSide; decide +kernel
    | 2, _ => unfold badSide; decide +kernel
    | i + 3, h => omega
  refine ⟨h i hi', fun k h1 h2 hb => ?_⟩
  have h2' : k < 3 := h2
  obtain rfl : i = 0 := by omega
  obtain rfl : k = 2 := by omega
  exact hb.1 (by decide)
theorem tri_range (id home : Int) (t : Rat) (h1 : wb id 0 999 = true) (h2 : wb home 0 4 = true) : rangeOk (castC tri id home t) := by
  refine ⟨fun i hi => ?_, fun i hi => ?_, h1, h2⟩
  · match i, hi with
    | 0, _ => show ptOk (0, 0) = true; decide
    | 1, _ => show ptOk (2, 0) = true; decide
    | 2, _ => show ptOk (0, 2) = true; decide
    | i + 3, h => exact absurd h (by show ¬ i + 3 < 3; omega)
  · match i, hi with
    | 0, _ => show markOk 0 = true; decide
    | 1, _ => show markOk 0 = true; decide
    | 2, _ => show markOk 0 = true; decide
    | i + 3, h => exact absurd h (by show ¬ i + 3 < 3; omega)
theorem cast1 : castOf tri 7 1 rHalf (RQ.of (Rat.divInt 1 4)) = (cst, 0) := by
  have hex : ∃ q : Rat, RQ.of (Rat.divInt 1 4) = RQ.of q ∧ 0 ≤ q := ⟨_, rfl, by decide +kernel⟩
  unfold castOf
  rw [dif_pos hex]
  have : hex.choose = Rat.divInt 1 4 := (RQ.of_inj hex.choose_spec.1).symm
  rw [this]
  have he : pieceErr (castC tri 7 1 (rHalf + Rat.divInt 1 4)) = 0 := by
    unfold pieceErr
    rw [if_pos (tri_range _ _ _ (by decide) (by decide)), if_pos]
    refine ⟨⟨by decide, by decide, by decide⟩, ⟨_, _, _, _, _, ⟨rfl, rfl, rfl, rfl, rfl⟩, ⟨by decide +kernel, by decide +kernel, by decide +kernel, by decide +kernel⟩, ⟨by decide +kernel, by decide +kernel, by decide +kernel⟩, by decide +kernel⟩, tri_poly⟩
  simp only [he, if_true]
  rfl
theorem cast2 : castOf tri 7 1 rHalf (RQ.of (Rat.divInt 15 4)) = (zeroP, 1) := by
  have hex : ∃ q : Rat, RQ.of (Rat.divInt 15 4) = RQ.of q ∧ 0 ≤ q := ⟨_, rfl, by decide +kernel⟩
  unfold castOf
  rw [dif_pos hex]
  have : hex.choose = Rat.divInt 15 4 := (RQ.of_inj hex.choose_spec.1).symm
  rw [this]
  have he : pieceErr (castC tri 7 1 (rHalf + Rat.divInt 15 4)) = 1 := by
    unfold pieceErr
    rw [if_pos (tri_range _ _ _ (by decide) (by decide)), if_neg]
    rintro ⟨_, ⟨t, l, h, s, r, ⟨e1, _⟩, ⟨_, ht, _⟩, _⟩, _⟩
    have := RQ.of_inj e1
    rw [← this] at ht
    revert ht
    decide +kernel
  simp only [he]
  rfl
theorem cast3 : castOf tri 7 1 rHalf (RQ.of (Rat.divInt (-1) 4)) = (zeroP, 1) := by
  unfold castOf
  rw [dif_neg]
  rintro ⟨q, e, h⟩
  rw [← RQ.of_inj e] at h
  revert h
  decide +kernel
def exJ : List (Int × Int) := [(0, 1), (2, 1), (2, 3)]
def exP : List Int := [-1, -1, 0, 1]
def exD : List (Int × Int × Int) := [(1, 2, 0), (2, 2, 0), (2, 3, 1)]
theorem ex_debts : debtsN exJ exP 3 = exD := by
  decide +kernel
theorem cst_small : cst.small := by
  have h := tri_small
  have h1 := RQ.of_sz (rHalf + Rat.divInt 1 4)
  have h2 := qb_add rHalf (Rat.divInt 1 4)
  have h3 := qb_div 1 2 ⟨by omega, by omega⟩ ⟨by omega, by omega⟩
  have h4 := qb_div 1 4 ⟨by omega, by omega⟩ ⟨by omega, by omega⟩
  have h5 : rHalf = Rat.divInt 1 2 := rfl
  rw [h5] at h1 h2
  exact ⟨h.rim, h.worn, h.marks, by show (RQ.of (rHalf + Rat.divInt 1 4)).sz ≤ _; rw [h5]; omega, h.light, h.heavy, h.strength, h.rough⟩
theorem lives_fn : Fn Tryz.prog 27 [] (.bool true) := by
  have hq : qb rHalf ≤ 3 := qb_div 1 2 ⟨by omega, by omega⟩ ⟨by omega, by omega⟩
  have o1 := of04_fn 1 4 ⟨by omega, by omega⟩ ⟨by omega, by omega⟩
  have o2 := of04_fn 15 4 ⟨by omega, by omega⟩ ⟨by omega, by omega⟩
  have o3 := of04_fn (-1) 4 ⟨by omega, by omega⟩ ⟨by omega, by omega⟩
  have o4 := of04_fn 3 4 ⟨by omega, by omega⟩ ⟨by omega, by omega⟩
  have z1 := sz_div 1 4 ⟨by omega, by omega⟩ ⟨by omega, by omega⟩
  have z2 := sz_div 15 4 ⟨by omega, by omega⟩ ⟨by omega, by omega⟩
  have z3 := sz_div (-1) 4 ⟨by omega, by omega⟩ ⟨by omega, by omega⟩
  have k1 := castof_fn tri tri_small 7 1 (RQ.of (Rat.divInt 1 4)) (by omega) (a := rHalf) rfl (by omega)
  have k2 := castof_fn tri tri_small 7 1 (RQ.of (Rat.divInt 15 4)) (by omega) (a := rHalf) rfl (by omega)
  have k3 := castof_fn tri tri_small 7 1 (RQ.of (Rat.divInt (-1) 4)) (by omega) (a := rHalf) rfl (by omega)
  rw [cast1] at k1
  rw [cast2] at k2
  rw [cast3] at k3
  have ct := triangle_fn
  refine Fn.intro (fn := Tryz.f27) Tryz.call27 Tryz.func27 rfl mixed 10 [] [2, 3, 4, 30000001, 40000001, 50000001] [] (by kernel_rfl) (Nat.le_of_ble_eq_true rfl) (by simp) (vc_soundN 1000 ?_)
  simp only [AS.start, ↓wPre, wA, ↓reduceIte, reduceIte, reduceCtorEq, Y1, Y2, Y3, Y4, Y5, Y6, Y7, Y8, Y9, YA, wE]
  refine call_fn ct rfl ?_
  simp only [pvA, pvC, ↓wPre, wA, ↓reduceIte, reduceIte, reduceCtorEq, Y1, Y2, Y3, Y4, Y5, Y6, Y7, Y8, Y9, YA, wE]
  refine call_fn o1 rfl ?_
  simp only [pvA, pvC, ↓wPre, wA, ↓reduceIte, reduceIte, reduceCtorEq, Y1, Y2, Y3, Y4, Y5, Y6, Y7, Y8, Y9, YA, wE]
  refine call_fn k1 rfl ?_
  simp only [pvA, pvC, ↓wPre, wA, ↓reduceIte, reduceIte, reduceCtorEq, Y1, Y2, Y3, Y4, Y5, Y6, Y7, Y8, Y9, YA, wE]
  refine call_fn o2 rfl ?_
  simp only [pvA, pvC, ↓wPre, wA, ↓reduceIte, reduceIte, reduceCtorEq, Y1, Y2, Y3, Y4, Y5, Y6, Y7, Y8, Y9, YA, wE]
  refine call_fn k2 rfl ?_
  simp only [pvA, pvC, ↓wPre, wA, ↓reduceIte, reduceIte, reduceCtorEq, Y1, Y2, Y3, Y4, Y5, Y6, Y7, Y8, Y9, YA, wE]
  refine call_fn o3 rfl ?_
  simp only [pvA, pvC, ↓wPre, wA, ↓reduceIte, reduceIte, reduceCtorEq, Y1, Y2, Y3, Y4, Y5, Y6, Y7, Y8, Y9, YA, wE]
  refine call_fn k3 rfl ?_
  simp only [pvA, pvC, ↓wPre, wA, ↓reduceIte, reduceIte, reduceCtorEq, Y1, Y2, Y3, Y4, Y5, Y6, Y7, Y8, Y9, YA, wE]
  have kd : Fn Tryz.prog 97 [pts exJ, ints exP] (debts exD) := by
    have := debts_fn exJ exP (by decide) (by decide)
    rwa [show exJ.length = 3 from rfl, ex_debts] at this
  have wj1 : Weak (.sl 3 6 (ofL [I 0, I 1, I 2, I 1, I 2, I 3]) true) (pts exJ) := weak_slW rfl (Nat.le_refl _) fun j hj => by
    match j, hj with
    | 0, _ => exact Weak.rfl' _
    | 1, _ => exact Weak.rfl' _
    | 2, _ => exact Weak.rfl' _
    | 3, _ => exact Weak.rfl' _
    | 4, _ => exact Weak.rfl' _
    | 5, _ => exact Weak.rfl' _
    | j + 6, h => exact absurd h (by show ¬ j + 6 < 3 * 2; omega)
  have wp1 : Weak (.sl 4 4 (ofL [I (-1), I (-1), I 0, I 1]) true) (ints exP) := weak_slW rfl (Nat.le_refl _) fun j hj => by
    match j, hj with
    | 0, _ => exact Weak.rfl' _
    | 1, _ => exact Weak.rfl' _
    | 2, _ => exact Weak.rfl' _
    | 3, _ => exact Weak.rfl' _
    | j + 4, h => exact absurd h (by show ¬ j + 4 < 4; omega)
  have wd1 : Weak (.sl 3 9 (ofL [I 1, I 2, I 0, I 2, I 2, I 0, I 2, I 3, I 1]) true) (debts exD) := weak_slW rfl (Nat.le_refl _) fun j hj => by
    match j, hj with
    | 0, _ => exact Weak.rfl' _
    | 1, _ => exact Weak.rfl' _
    | 2, _ => exact Weak.rfl' _
    | 3, _ => exact Weak.rfl' _
    | 4, _ => exact Weak.rfl' _
    | 5, _ => exact Weak.rfl' _
    | 6, _ => exact Weak.rfl' _
    | 7, _ => exact Weak.rfl' _
    | 8, _ => exact Weak.rfl' _
    | j + 9, h => exact absurd h (by show ¬ j + 9 < 3 * 3; omega)
  refine call_weak kd ⟨wj1, wp1, trivial⟩ ?_
  have i1 : (cst.id = 7) = True := eq_true rfl
  have i2 : (cst.home = 1) = True := eq_true rfl
  simp only [pvA, pvC, i1, i2, Int.reduceEq, ↓wPre, wA, ↓reduceIte, reduceIte, reduceCtorEq, Y1, Y2, Y3, Y4, Y5, Y6, Y7, Y8, Y9, YA, wE]
  refine call_fn o4 rfl ?_
  simp only [pvA, pvC, i1, i2, Int.reduceEq, ↓wPre, wA, ↓reduceIte, reduceIte, reduceCtorEq, Y1, Y2, Y3, Y4, Y5, Y6, Y7, Y8, Y9, YA, wE]
  have et : cst.tol = RQ.of (Rat.divInt 3 4) := by
    show RQ.of (rHalf + Rat.divInt 1 4) = _
    rw [show rHalf + Rat.divInt 1 4 = Rat.divInt 3 4 by decide +kernel]
  have z4 := sz_div 3 4 ⟨by omega, by omega⟩ ⟨by omega, by omega⟩
  have ks := same04_fn cst.tol (RQ.of (Rat.divInt 3 4)) (by rw [et]; omega) (by omega)
  rw [decide_eq_true et] at ks
  refine call_fn ks rfl ?_
  simp only [pvA, pvC, i1, i2, Int.reduceEq, ↓wPre, wA, ↓reduceIte, reduceIte, reduceCtorEq, Y1, Y2, Y3, Y4, Y5, Y6, Y7, Y8, Y9, YA, wE]
  refine call_fn (plain_fn exD (by decide)) rfl ?_
  simp only [pvA, pvC, i1, i2, Int.reduceEq, ↓wPre, wA, ↓reduceIte, reduceIte, reduceCtorEq, Y1, Y2, Y3, Y4, Y5, Y6, Y7, Y8, Y9, YA, wE]
  have kk := same_fn36 exD exD (by decide) (by decide)
  rw [decide_eq_true rfl] at kk
  refine call_weak kk ⟨Weak.rfl' _, wd1, trivial⟩ ?_
  simp only [pvA, pvC, i1, i2, Int.reduceEq, ↓wPre, wA, ↓reduceIte, reduceIte, reduceCtorEq, Y1, Y2, Y3, Y4, Y5, Y6, Y7, Y8, Y9, YA, wE]
  have is1 := is_fn tri cst tri_small cst_small (a := rHalf) (b := rHalf + Rat.divInt 1 4) rfl rfl
  rw [decide_eq_true ⟨rfl, by decide +kernel⟩] at is1
  have is2 := is_fn cst tri cst_small tri_small (a := rHalf + Rat.divInt 1 4) (b := rHalf) rfl rfl
  rw [decide_eq_false (fun h => by have := h.2; revert this; decide +kernel)] at is2
  have is3 := is_fn tri tri tri_small tri_small (a := rHalf) (b := rHalf) rfl rfl
  rw [decide_eq_true ⟨rfl, Rat.le_refl⟩] at is3
  refine call_fn is1 rfl ?_
  simp only [pvA, pvC, ↓wPre, wA, ↓reduceIte, reduceIte, reduceCtorEq, Y1, Y2, Y3, Y4, Y5, Y6, Y7, Y8, Y9, YA, wE]
  refine call_fn is2 rfl ?_
  simp only [pvA, pvC, ↓wPre, wA, ↓reduceIte, reduceIte, reduceCtorEq, Y1, Y2, Y3, Y4, Y5, Y6, Y7, Y8, Y9, YA, wE]
  refine call_fn is3 rfl ?_
  simp only [↓wPre, wA, ↓reduceIte, reduceIte, reduceCtorEq, Y1, Y2, Y3, Y4, Y5, Y6, Y7, Y8, Y9, YA, wE]
  exact ret1E rfl rfl (settled_bool _) rfl
end
end Go.Ab.N
namespace Go.Ab.N
open Go Go.RowKit Go.Proofs
noncomputable section
set_option maxRecDepth 10000
set_option maxHeartbeats 2000000
open Classical

/-! ### Reference 03: Compare, Sign, Valid -/
theorem refcmp_fn (a b : Int) (la : bl a < 4611686018427387904) (lb : bl b < 4611686018427387904) : Fn Tryz.prog 186 [zA a, zA b] (I (a - b).sign) := by
  unfold bl at la lb
  have c1 := compared_fn (digs b.natAbs) (digs a.natAbs) (digs_canon _) (digs_canon _) lb
  have c2 := compared_fn (digs a.natAbs) (digs b.natAbs) (digs_canon _) (digs_canon _) la
  rw [digs_val, digs_val] at c1 c2
  obtain ⟨V, hV⟩ : ∃ V, V = (a - b).sign := ⟨_, rfl⟩
  rw [← hV]
  have fin : ∀ {s : AS} {v : Int}, s.get 4 = I v → v = V → RetOk (envP Tryz.prog Tryz.f186 [] [] (I V)) s := fun h e => ret1E rfl h (settled_I _) (by rw [e])
  refine Fn.intro (fn := Tryz.f186) Tryz.call186 Tryz.func186 rfl mixed 5 [] [] [] (by kernel_rfl) (Nat.le_of_ble_eq_true rfl) (by simp [settled_zA]) (vc_soundN 1000 ?_)
  by_cases ha : a < 0
  · have f1 : (a < 0) = True := eq_true ha
    by_cases hb : b < 0
    · have f2 : (b < 0) = True := eq_true hb
      simp only [AS.start, f1, f2, nb_tt, ↓wPre, wA, ↓reduceIte, reduceIte, reduceCtorEq, Y1, Y2, Y3, Y4, Y5, Y6, Y7, Y8, Y9, YA, wE]
      refine call_fn c1 rfl ?_
      simp only [↓wPre, wA, ↓reduceIte, reduceIte, reduceCtorEq, Y1, Y2, Y3, Y4, Y5, Y6, Y7, Y8, Y9, YA, wE]
      refine fin rfl ?_
      rw [hV]; congr 1; omega
    · have f2 : (b < 0) = False := eq_false hb
      simp only [AS.start, f1, f2, nb_tf, ↓wPre, wA, ↓reduceIte, reduceIte, reduceCtorEq, Y1, Y2, Y3, Y4, Y5, Y6, Y7, Y8, Y9, YA, wE]
      refine fin rfl ?_
      rw [hV, Int.sign_eq_neg_one_of_neg (by omega)]
  · have f1 : (a < 0) = False := eq_false ha
    by_cases hb : b < 0
    · have f2 : (b < 0) = True := eq_true hb
      simp only [AS.start, f1, f2, nb_ft, ↓wPre, wA, ↓reduceIte, reduceIte, reduceCtorEq, Y1, Y2, Y3, Y4, Y5, Y6, Y7, Y8, Y9, YA, wE]
      refine fin rfl ?_
      rw [hV, Int.sign_eq_one_of_pos (by omega)]
    · have f2 : (b < 0) = False := eq_false hb
      simp only [AS.start, f1, f2, nb_ff, ↓wPre, wA, ↓reduceIte, reduceIte, reduceCtorEq, Y1, Y2, Y3, Y4, Y5, Y6, Y7, Y8, Y9, YA, wE]
      refine call_fn c2 rfl ?_
      simp only [↓wPre, wA, ↓reduceIte, reduceIte, reduceCtorEq, Y1, Y2, Y3, Y4, Y5, Y6, Y7, Y8, Y9, YA, wE]
      refine fin rfl ?_
      rw [hV]; congr 1; omega
theorem refsign_fn (a : Int) (la : bl a < 4611686018427387904) : Fn Tryz.prog 173 [zA a] (I a.sign) := by
  have c := refcmp_fn a 0 la (by unfold bl; rw [Int.natAbs_zero, digs_zero]; decide)
  rw [Int.sub_zero] at c
  refine Fn.intro (fn := Tryz.f173) Tryz.call173 Tryz.func173 rfl mixed 3 [] [] [] (by kernel_rfl) (Nat.le_of_ble_eq_true rfl) (by simp [settled_ints, settled_I, settled_fn0, settled_intss, settled_bool, settled_nil, settled_zA, settled_qA, settled_vA, settled_zR, settled_ofA, settled_int, settled_pts, settled_bools]) (vc_soundN 1000 ?_); simp (config := { maxSteps := 2000000 }) only [AS.start, ↓wPre, wA, ↓reduceIte, reduceIte, reduceCtorEq, Y1, Y2, Y3, Y4, Y5, Y6, Y7, Y8, Y9, YA, wE]
  refine call_weak c ⟨Weak.rfl' _, ?_, trivial⟩ ?_
  · exact weak_agg ⟨Weak.rfl' _, weak_empE (by rw [Int.natAbs_zero, digs_zero]), trivial⟩
  simp only [↓wPre, wA, ↓reduceIte, reduceIte, reduceCtorEq, Y1, Y2, Y3, Y4, Y5, Y6, Y7, Y8, Y9, YA, wE]
  exact ret1E rfl rfl (settled_I _) rfl
end
end Go.Ab.N
namespace Go.Ab.N
open Go Go.RowKit Go.Proofs
noncomputable section
set_option maxRecDepth 10000
set_option maxHeartbeats 2000000
open Classical

/-! ### Reference 04: arithmetic -/
theorem refden_fn (r : Rat) : Fn Tryz.prog 162 [qA r] (zA r.den) := by
  obtain ⟨R, hR⟩ : ∃ R, R = zA r.den := ⟨_, rfl⟩
  have sR : Settled R := hR ▸ settled_zA _
  rw [← hR]
  rw [zA_den] at hR
  by_cases h : r.den = 1
  · have f1 : ((digs (qd r)).length = 0) = True := eq_true ((qd_len r).2 h)
    have f2 : (((digs (qd r)).length : Int) = 0) = True := eq_true (by have := (qd_len r).2 h; omega)
    refine Fn.intro (fn := Tryz.f162) Tryz.call162 Tryz.func162 rfl mixed 3 [] [] [] (by kernel_rfl) (Nat.le_of_ble_eq_true rfl) (by simp [settled_ints, settled_I, settled_fn0, settled_intss, settled_bool, settled_nil, settled_zA, settled_qA, settled_vA, settled_zR, settled_ofA, settled_int, settled_pts, settled_bools]) (vc_soundN 1000 ?_); simp (config := { maxSteps := 2000000 }) only [AS.start, ↓wPre, wA, ↓reduceIte, reduceIte, reduceCtorEq, Y1, Y2, Y3, Y4, Y5, Y6, Y7, Y8, Y9, YA, wE]
    simp only [f1, f2, ↓wPre, wA, ↓reduceIte, reduceIte, reduceCtorEq, Y1, Y2, Y3, Y4, Y5, Y6, Y7, Y8, Y9, YA, wE]
    refine call_fn (rofZ_fn 1 ⟨by omega, by omega⟩) rfl ?_
    simp only [↓wPre, wA, ↓reduceIte, reduceIte, reduceCtorEq, Y1, Y2, Y3, Y4, Y5, Y6, Y7, Y8, Y9, YA, wE]
    exact retA rfl ldk26 rfl rfl rfl sR (by rw [hR, h]; rfl)
  · have f1 : ((digs (qd r)).length = 0) = False := eq_false fun e => h ((qd_len r).1 e)
    have f2 : (((digs (qd r)).length : Int) = 0) = False := eq_false fun e => h ((qd_len r).1 (by omega))
    refine Fn.intro (fn := Tryz.f162) Tryz.call162 Tryz.func162 rfl mixed 3 [] [] [] (by kernel_rfl) (Nat.le_of_ble_eq_true rfl) (by simp [settled_ints, settled_I, settled_fn0, settled_intss, settled_bool, settled_nil, settled_zA, settled_qA, settled_vA, settled_zR, settled_ofA, settled_int, settled_pts, settled_bools]) (vc_soundN 1000 ?_); simp (config := { maxSteps := 2000000 }) only [AS.start, ↓wPre, wA, ↓reduceIte, reduceIte, reduceCtorEq, Y1, Y2, Y3, Y4, Y5, Y6, Y7, Y8, Y9, YA, wE]
    simp only [f1, f2, ↓wPre, wA, ↓reduceIte, reduceIte, reduceCtorEq, Y1, Y2, Y3, Y4, Y5, Y6, Y7, Y8, Y9, YA, wE]
    exact retA rfl ldk26 rfl rfl rfl sR (by rw [hR, qd_ne h]; rfl)
theorem refrsign_fn (r : Rat) (h : qb r ≤ rm) : Fn Tryz.prog 84 [qA r] (I r.num.sign) := by
  have h1 := qb_num r
  have c := refsign_fn r.num (by unfold rm at h; omega)
  refine Fn.intro (fn := Tryz.f84) Tryz.call84 Tryz.func84 rfl mixed 3 [] [] [] (by kernel_rfl) (Nat.le_of_ble_eq_true rfl) (by simp [settled_ints, settled_I, settled_fn0, settled_intss, settled_bool, settled_nil, settled_zA, settled_qA, settled_vA, settled_zR, settled_ofA, settled_int, settled_pts, settled_bools]) (vc_soundN 1000 ?_); simp (config := { maxSteps := 2000000 }) only [AS.start, ↓wPre, wA, ↓reduceIte, reduceIte, reduceCtorEq, Y1, Y2, Y3, Y4, Y5, Y6, Y7, Y8, Y9, YA, wE]
  refine call_fn c rfl ?_
  simp only [↓wPre, wA, ↓reduceIte, reduceIte, reduceCtorEq, Y1, Y2, Y3, Y4, Y5, Y6, Y7, Y8, Y9, YA, wE]
  exact ret1E rfl rfl (settled_I _) rfl
theorem refrcmp_fn (a b : Rat) (ha : qb a ≤ rm) (hb : qb b ≤ rm) : Fn Tryz.prog 95 [qA a, qA b] (I (qcmp a b)) := by
  unfold rm at ha hb
  have a1 := qb_num a; have a2 := qb_den a; have b1 := qb_num b; have b2 := qb_den b
  have m1 := rmulz_fn a.num b.den (by unfold room; omega) (by unfold room; omega)
  have m2 := rmulz_fn b.num a.den (by unfold room; omega) (by unfold room; omega)
  have n1 := bl_mul a.num b.den
  have n2 := bl_mul b.num a.den
  have c := refcmp_fn (a.num * b.den) (b.num * a.den) (by omega) (by omega)
  have d1 := refden_fn a
  have d2 := refden_fn b
  obtain ⟨V, hV⟩ : ∃ V, V = qcmp a b := ⟨_, rfl⟩
  rw [show (a.num * b.den - b.num * a.den).sign = V from hV.symm] at c
  rw [← hV]
  refine Fn.intro (fn := Tryz.f95) Tryz.call95 Tryz.func95 rfl mixed 5 [] [] [] (by kernel_rfl) (Nat.le_of_ble_eq_true rfl) (by simp [settled_ints, settled_I, settled_fn0, settled_intss, settled_bool, settled_nil, settled_zA, settled_qA, settled_vA, settled_zR, settled_ofA, settled_int, settled_pts, settled_bools]) (vc_soundN 1000 ?_); simp (config := { maxSteps := 2000000 }) only [AS.start, ↓wPre, wA, ↓reduceIte, reduceIte, reduceCtorEq, Y1, Y2, Y3, Y4, Y5, Y6, Y7, Y8, Y9, YA, wE]
  refine call_fn d2 rfl ?_
  simp only [↓wPre, wA, ↓reduceIte, reduceIte, reduceCtorEq, Y1, Y2, Y3, Y4, Y5, Y6, Y7, Y8, Y9, YA, wE]
  refine call_fn m1 rfl ?_
  simp only [↓wPre, wA, ↓reduceIte, reduceIte, reduceCtorEq, Y1, Y2, Y3, Y4, Y5, Y6, Y7, Y8, Y9, YA, wE]
  refine call_fn d1 rfl ?_
  simp only [↓wPre, wA, ↓reduceIte, reduceIte, reduceCtorEq, Y1, Y2, Y3, Y4, Y5, Y6, Y7, Y8, Y9, YA, wE]
  refine call_fn m2 rfl ?_
  simp only [↓wPre, wA, ↓reduceIte, reduceIte, reduceCtorEq, Y1, Y2, Y3, Y4, Y5, Y6, Y7, Y8, Y9, YA, wE]
  refine call_fn c rfl ?_
  simp only [↓wPre, wA, ↓reduceIte, reduceIte, reduceCtorEq, Y1, Y2, Y3, Y4, Y5, Y6, Y7, Y8, Y9, YA, wE]
  exact ret1E rfl rfl (settled_I _) rfl
end
end Go.Ab.N
