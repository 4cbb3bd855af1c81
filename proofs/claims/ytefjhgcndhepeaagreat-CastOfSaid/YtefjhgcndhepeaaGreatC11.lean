/- Contracts of functions of these chapters, for every argument that fits, and what they need. -/
import Derived.Test.YtefjhgcndhepeaaGreatC10
set_option linter.unusedSimpArgs false
set_option linter.unusedVariables false
open Nat renaming reducePow → Y1, reduceLT → Y2, reduceLeDiff → Y3, reduceEqDiff → Y4, reduceAdd → Y5, reduceMul → Y6, reduceSub → Y7, reduceBEq → Y8, reduceDiv → Y9, reduceMod → YA
namespace Go.Ab.N
open Go Go.RowKit Go.Proofs
noncomputable section
set_option maxRecDepth 10000
set_option maxHeartbeats 4000000
open Classical

/-! ### Reference 12: Spoilt -/
def spA (b : Int) : Rat := Rat.divInt (aroundF b 9 - 3) (1 + aroundF (b.tdiv 9) 3)
def spK (p : PV) (b : Int) : Nat := (aroundF b p.rim.length).toNat
def spoiltF (p : PV) (c b : Int) : PV :=
  if c = 0 then { p with id := ([-1, 1000, 999, 0] : List Int).getD (aroundF b 4).toNat 0 }
  else if c = 1 then { p with home := ([-1, 5, 4, 0] : List Int).getD (aroundF b 4).toNat 0 }
  else if c = 2 then { p with rim := p.rim.set (spK p b) (([65536, 65537, -65536, -65537, 1, 2] : List Int).getD (aroundF (b.tdiv 5) 6).toNat 0, aroundF b 9) }
  else if c = 3 then { p with rim := p.rim ++ [(aroundF b 9, aroundF (b.tdiv 9) 9)] }
  else if c = 4 then { p with worn := p.worn.drop 1 }
  else if c = 5 then { p with marks := p.marks ++ [aroundF b 3] }
  else if c = 6 then { p with marks := p.marks.set 0 (([-1, 1025, 1024, 0, 7] : List Int).getD (aroundF b 5).toNat 0) }
  else if c = 7 then { p with tol := RQ.of (spA b) }
  else if c = 8 then { p with light := RQ.of (spA b) }
  else if c = 9 then { p with heavy := RQ.of (([spA b, Rat.divInt 1000 1, Rat.divInt 1001 1] : List Rat).getD (aroundF b 3).toNat 0) }
  else if c = 10 then { p with strength := RQ.of (spA b) }
  else if c = 11 then { p with rough := RQ.of (spA b) }
  else if c = 12 then { p with rough := ⟨p.rough.pn, p.rough.pd, false, [1]⟩ }
  else { p with worn := p.worn.set 0 (!p.worn.getD 0 false) }
theorem seesP {H : List AO} {id ver n m : Nat} {f : Nat → AV} (L : List (Int × Int)) (ho : H[id]? = some (.row ver m f)) (hn : n = L.length) (hm : m = L.length * 2) (hf : ∀ j, j < L.length * 2 → f j = slFs ptC 2 (0, 0) L j) : Sees H (.osl id ver 2 0 n) (pts L) := by
  subst hn; subst hm
  rw [pts_def]
  refine sees_osl (.inl ho) (by omega) (fun h => by rw [h]) fun j hj => ?_
  rw [Nat.zero_add, hf j hj]
  exact (settled_cells (settled_ptC _) _).sees _
theorem seesB {H : List AO} {id ver off n m : Nat} {f : Nat → AV} (L : List Bool) (ho : H[id]? = some (.row ver m f)) (hn : n = L.length) (hm : off + L.length ≤ m) (hf : ∀ j, j < L.length → f (off + j) = .bool (L.getD j false)) : Sees H (.osl id ver 1 off n) (bools L) := by
  subst hn
  rw [bools_def]
  refine sees_osl (.inl ho) hm (fun h => h) fun j hj => ?_
  rw [hf j hj, slF_at]
  exact (settled_bool _).sees _
theorem seesI {H : List AO} {id ver n m : Nat} {f : Nat → AV} (L : List Int) (ho : H[id]? = some (.row ver m f)) (hn : n = L.length) (hm : m = L.length) (hf : ∀ j, j < L.length → f j = I (L.getD j 0)) : Sees H (.osl id ver 1 0 n) (ints L) := by
  subst hn; subst hm
  rw [ints_def]
  refine sees_osl (.inl ho) (by omega) (fun h => h) fun j hj => ?_
  rw [Nat.zero_add, hf j hj, slF_at]
  exact (settled_I _).sees _
theorem appF_base {n m : Nat} {f g h : Nat → AV} (hf : ∀ j, j < n → f j = g j) (j : Nat) (hj : j < n + m) : appF n f m h j = appF n g m h j := by
  unfold appF
  by_cases h1 : j < n
  · rw [if_pos h1, if_pos h1, hf j h1]
  · rw [if_neg h1, if_neg h1, if_pos hj, if_pos hj]
theorem getD_set {α : Type} (l : List α) (k j : Nat) (x d : α) (hk : k < l.length) : (l.set k x).getD j d = if j = k then x else l.getD j d := by
  rw [List.getD_eq_getElem?_getD, List.getD_eq_getElem?_getD, List.getElem?_set]
  by_cases h : k = j
  · subst h; rw [if_pos rfl, if_pos hk, if_pos rfl]; rfl
  · rw [if_neg h, if_neg (Ne.symm h)]
theorem slFs_set2 (l : List (Int × Int)) (k j : Nat) (x : Int × Int) (hk : k < l.length) : slFs ptC 2 (0, 0) (l.set k x) j = if j = k * 2 + 1 then I x.2 else if j = k * 2 then I x.1 else slFs ptC 2 (0, 0) l j := by
  unfold slFs
  rw [getD_set _ _ _ _ _ hk]
  by_cases h1 : j = k * 2 + 1
  · rw [if_pos h1, if_pos (by omega), show j % 2 = 1 by omega]; rfl
  · rw [if_neg h1]
    by_cases h2 : j = k * 2
    · rw [if_pos h2, if_pos (by omega), show j % 2 = 0 by omega]; rfl
    · rw [if_neg h2, if_neg (by omega)]
theorem getD_app1 {α : Type} (l : List α) (x d : α) (j : Nat) : (l ++ [x]).getD j d = if j < l.length then l.getD j d else if j = l.length then x else d := by
  rw [List.getD_eq_getElem?_getD, List.getD_eq_getElem?_getD]
  by_cases h : j < l.length
  · rw [if_pos h, List.getElem?_append_left h]
  · rw [if_neg h, List.getElem?_append_right (by omega)]
    by_cases h2 : j = l.length
    · rw [if_pos h2, h2, Nat.sub_self]; rfl
    · rw [if_neg h2, List.getElem?_eq_none (by simp; omega)]; rfl
theorem in64_tdiv {b : Int} (hb : in64 b) (m : Int) (hm : m = 5 ∨ m = 9) : in64 (b.tdiv m) := by
  unfold in64 at hb ⊢
  rcases Int.le_total 0 b with h | h
  · rw [Int.tdiv_eq_ediv_of_nonneg h]; rcases hm with rfl | rfl <;> omega
  · have e : b.tdiv m = -((-b).tdiv m) := by rw [Int.neg_tdiv]; omega
    rw [e, Int.tdiv_eq_ediv_of_nonneg (by omega)]; rcases hm with rfl | rfl <;> omega
theorem spoilt_fn (p : PV) (hr : 0 < p.rim.length ∧ p.rim.length ≤ 1000) (hw : p.worn.length = p.rim.length) (hm : p.marks.length = p.rim.length) (how b : Int) (hh : in64 how) (hb : in64 b) : Fn Tryz.prog 24 [pvA p, I how, I b] (pvA (spoiltF p (aroundF how 14) b)) := by
  have b9 := aroundF_bound b 9 (by omega)
  have b93 := aroundF_bound (b.tdiv 9) 3 (by omega)
  have bc := aroundF_bound how 14 (by omega)
  have h9 := in64_tdiv hb 9 (.inr rfl)
  have h5 := in64_tdiv hb 5 (.inl rfl)
  have ck := around01_fn b p.rim.length hb (by omega)
  have c9 := around01_fn b 9 hb (by omega)
  have c93 := around01_fn (b.tdiv 9) 3 h9 (by omega)
  have cc := around01_fn how 14 hh (by omega)
  have ca := of04_fn (aroundF b 9 - 3) (1 + aroundF (b.tdiv 9) 3) ⟨by omega, by omega⟩ ⟨by omega, by omega⟩
  have w3 : IntKind.i64.wrap (aroundF b 9 - 3) = aroundF b 9 - 3 := by rw [IntKind.wrap_i64]; omega
  have w1 : IntKind.i64.wrap (1 + aroundF (b.tdiv 9) 3) = 1 + aroundF (b.tdiv 9) 3 := by rw [IntKind.wrap_i64]; omega
  have wd : IntKind.i64.wrap (b.tdiv 9) = b.tdiv 9 := by
    unfold in64 at h9; rw [IntKind.wrap_i64]; omega
  have wd5 : IntKind.i64.wrap (b.tdiv 5) = b.tdiv 5 := by
    unfold in64 at h5; rw [IntKind.wrap_i64]; omega
  have t1 : (1 : Int).toNat = 1 := rfl
  have t2 : (2 : Int).toNat = 2 := rfl
  have t3 : (3 : Int).toNat = 3 := rfl
  have t4 : (4 : Int).toNat = 4 := rfl
  have t5 : (5 : Int).toNat = 5 := rfl
  have n3 : ((3 : Nat) : Int) = 3 := rfl
  have n4 : ((4 : Nat) : Int) = 4 := rfl
  have n5 : ((5 : Nat) : Int) = 5 := rfl
  have n6 : ((6 : Nat) : Int) = 6 := rfl
  have l1 : ((0 : Int) < p.rim.length) = True := eq_true (by omega)
  have l1' : (0 < p.rim.length) = True := eq_true (by omega)
  have l2 : ((0 : Int) < p.worn.length) = True := eq_true (by omega)
  have l2' : (0 < p.worn.length) = True := eq_true (by omega)
  have l3 : ((0 : Int) < p.marks.length) = True := eq_true (by omega)
  have l3' : (0 < p.marks.length) = True := eq_true (by omega)
  have hP : ∀ j, j < p.rim.length * 2 → appF 0 (ofL []) (p.rim.length * 2) (slFs ptC 2 (0, 0) p.rim) j = slFs ptC 2 (0, 0) p.rim j := fun j hj => by rw [appF_0, if_pos hj]
  have hB : ∀ j, j < p.worn.length → appF 0 (ofL []) p.worn.length (slF AV.bool false p.worn) j = .bool (p.worn.getD j false) := fun j hj => by rw [appF_0, if_pos hj, slF_at]
  have hI : ∀ j, j < p.marks.length → appF 0 (ofL []) p.marks.length (slF I 0 p.marks) j = I (p.marks.getD j 0) := fun j hj => by rw [appF_0, if_pos hj, slF_at]
  have hB' : ∀ j, j < p.worn.length → appF 0 (ofL []) p.worn.length (slF AV.bool false p.worn) (0 + j) = .bool (p.worn.getD j false) := fun j hj => by rw [Nat.zero_add]; exact hB j hj
  have hmx : max (p.rim.length : Int) 1 = p.rim.length := by omega
  obtain ⟨V, hV⟩ : ∃ V, V = pvA (spoiltF p (aroundF how 14) b) := ⟨_, rfl⟩
  rw [← hV]
  refine Fn.intro (fn := Tryz.f24) Tryz.call24 Tryz.func24 rfl mixed 10 [41] [] [] (by kernel_rfl) (Nat.le_of_ble_eq_true rfl) (by simp [settled_pvA, settled_I]) (vc_soundN 1000 ?_)
  simp only [AS.start, pvA, pvC, pts_def, bools_def, ints_def, ↓wPre, wA, ↓reduceIte, reduceIte, reduceCtorEq, Y1, Y2, Y3, Y4, Y5, Y6, Y7, Y8, Y9, YA, wE]
  refine ⟨⟨fun j _ => slFs_one _ _ _ _ _ (by omega) fun a => ⟨rfl, by simp [ptC, I, AV.one]⟩, by omega, by omega⟩, ⟨by omega, by omega⟩, ⟨by omega, by omega⟩, ?_⟩
  rw [if_neg (show ¬ (p.rim.length : Int) < 1 by omega)]
  refine call_fn ck rfl ?_
  simp only [w1, w3, wd, Int.reduceEq, ↓wPre, wA, ↓reduceIte, reduceIte, reduceCtorEq, Y1, Y2, Y3, Y4, Y5, Y6, Y7, Y8, Y9, YA, wE]
  refine call_fn c9 rfl ?_
  simp only [w1, w3, wd, Int.reduceEq, ↓wPre, wA, ↓reduceIte, reduceIte, reduceCtorEq, Y1, Y2, Y3, Y4, Y5, Y6, Y7, Y8, Y9, YA, wE]
  refine call_fn c93 rfl ?_
  simp only [w1, w3, wd, Int.reduceEq, ↓wPre, wA, ↓reduceIte, reduceIte, reduceCtorEq, Y1, Y2, Y3, Y4, Y5, Y6, Y7, Y8, Y9, YA, wE]
  refine call_fn ca rfl ?_
  simp only [w1, w3, wd, Int.reduceEq, ↓wPre, wA, ↓reduceIte, reduceIte, reduceCtorEq, Y1, Y2, Y3, Y4, Y5, Y6, Y7, Y8, Y9, YA, wE]
  refine call_fn cc rfl ?_
  rcases (show aroundF how 14 = 0 ∨ aroundF how 14 = 1 ∨ aroundF how 14 = 2 ∨ aroundF how 14 = 3 ∨ aroundF how 14 = 4 ∨ aroundF how 14 = 5 ∨ aroundF how 14 = 6 ∨ aroundF how 14 = 7 ∨ aroundF how 14 = 8 ∨ aroundF how 14 = 9 ∨ aroundF how 14 = 10 ∨ aroundF how 14 = 11 ∨ aroundF how 14 = 12 ∨ aroundF how 14 = 13 by omega) with e | e | e | e | e | e | e | e | e | e | e | e | e | e
  all_goals
    rw [e] at hV
    rw [e]
    clear e cc bc hh
  · have c4 := around01_fn b 4 hb (by omega)
    have b4 := aroundF_bound b 4 (by omega)
    simp only [t1, t2, t3, t4, t5, n3, n4, n5, n6, l1, l1', l2, l2', l3, l3', w1, w3, wd, wd5, Int.toNat_zero, Int.reduceEq, Int.reduceLT, Int.reduceLE, ↓wPre, wA, ↓reduceIte, reduceIte, reduceCtorEq, Y1, Y2, Y3, Y4, Y5, Y6, Y7, Y8, Y9, YA, wE]
    refine call_fn c4 rfl ?_
    rcases (show aroundF b 4 = 0 ∨ aroundF b 4 = 1 ∨ aroundF b 4 = 2 ∨ aroundF b 4 = 3 by omega) with e | e | e | e
    all_goals
      have hV' : V = pvA { p with id := ([-1, 1000, 999, 0] : List Int).getD (aroundF b 4).toNat 0 } := hV
      rw [e] at hV'
      rw [e]
      simp only [t1, t2, t3, t4, t5, n3, n4, n5, n6, l1, l1', l2, l2', l3, l3', w1, w3, wd, wd5, Int.toNat_zero, Int.reduceEq, Int.reduceLT, Int.reduceLE, ↓wPre, wA, ↓reduceIte, reduceIte, reduceCtorEq, Y1, Y2, Y3, Y4, Y5, Y6, Y7, Y8, Y9, YA, wE]
      rw [hV']
      refine retCellS rfl ldk30 rfl rfl rfl ?_
      exact sees_agg ⟨(settled_I _).sees _, (settled_I _).sees _, (seesP p.rim rfl rfl rfl hP), (seesB p.worn rfl rfl (show 0 + p.worn.length ≤ p.worn.length by omega) hB'), (seesI p.marks rfl rfl rfl hI), (settled_bool _).sees _, (settled_ints _).sees _, (settled_bool _).sees _, (settled_ints _).sees _, (settled_bool _).sees _, (settled_ints _).sees _, (settled_bool _).sees _, (settled_ints _).sees _, (settled_bool _).sees _, (settled_ints _).sees _, (settled_bool _).sees _, (settled_ints _).sees _, (settled_bool _).sees _, (settled_ints _).sees _, (settled_bool _).sees _, (settled_ints _).sees _, (settled_bool _).sees _, (settled_ints _).sees _, (settled_bool _).sees _, ((settled_ints _).sees _), trivial⟩
  · have c4 := around01_fn b 4 hb (by omega)
    have b4 := aroundF_bound b 4 (by omega)
    simp only [t1, t2, t3, t4, t5, n3, n4, n5, n6, l1, l1', l2, l2', l3, l3', w1, w3, wd, wd5, Int.toNat_zero, Int.reduceEq, Int.reduceLT, Int.reduceLE, ↓wPre, wA, ↓reduceIte, reduceIte, reduceCtorEq, Y1, Y2, Y3, Y4, Y5, Y6, Y7, Y8, Y9, YA, wE]
    refine call_fn c4 rfl ?_
    rcases (show aroundF b 4 = 0 ∨ aroundF b 4 = 1 ∨ aroundF b 4 = 2 ∨ aroundF b 4 = 3 by omega) with e | e | e | e
    all_goals
      have hV' : V = pvA { p with home := ([-1, 5, 4, 0] : List Int).getD (aroundF b 4).toNat 0 } := hV
      rw [e] at hV'
      rw [e]
      simp only [t1, t2, t3, t4, t5, n3, n4, n5, n6, l1, l1', l2, l2', l3, l3', w1, w3, wd, wd5, Int.toNat_zero, Int.reduceEq, Int.reduceLT, Int.reduceLE, ↓wPre, wA, ↓reduceIte, reduceIte, reduceCtorEq, Y1, Y2, Y3, Y4, Y5, Y6, Y7, Y8, Y9, YA, wE]
      rw [hV']
      refine retCellS rfl ldk30 rfl rfl rfl ?_
      exact sees_agg ⟨(settled_I _).sees _, (settled_I _).sees _, (seesP p.rim rfl rfl rfl hP), (seesB p.worn rfl rfl (show 0 + p.worn.length ≤ p.worn.length by omega) hB'), (seesI p.marks rfl rfl rfl hI), (settled_bool _).sees _, (settled_ints _).sees _, (settled_bool _).sees _, (settled_ints _).sees _, (settled_bool _).sees _, (settled_ints _).sees _, (settled_bool _).sees _, (settled_ints _).sees _, (settled_bool _).sees _, (settled_ints _).sees _, (settled_bool _).sees _, (settled_ints _).sees _, (settled_bool _).sees _, (settled_ints _).sees _, (settled_bool _).sees _, (settled_ints _).sees _, (settled_bool _).sees _, (settled_ints _).sees _, (settled_bool _).sees _, ((settled_ints _).sees _), trivial⟩
  · have c56 := around01_fn (b.tdiv 5) 6 h5 (by omega)
    have b56 := aroundF_bound (b.tdiv 5) 6 (by omega)
    have bk := aroundF_bound b p.rim.length (by omega)
    obtain ⟨K, hK⟩ : ∃ K : Nat, aroundF b p.rim.length = K := ⟨(aroundF b p.rim.length).toNat, by omega⟩
    rw [hK] at bk ⊢
    have y1 : ((K : Int) < p.rim.length) = True := eq_true (by omega)
    have y2 : (K < p.rim.length) = True := eq_true (by omega)
    have y3 : (K * 2 + 2 ≤ p.rim.length * 2) = True := eq_true (by omega)
    simp only [y1, y2, y3, t1, t2, t3, t4, t5, n3, n4, n5, n6, l1, l1', l2, l2', l3, l3', w1, w3, wd, wd5, Int.toNat_zero, Int.reduceEq, Int.reduceLT, Int.reduceLE, ↓wPre, wA, ↓reduceIte, reduceIte, reduceCtorEq, Y1, Y2, Y3, Y4, Y5, Y6, Y7, Y8, Y9, YA, wE]
    refine call_fn c56 rfl ?_
    rcases (show aroundF (b.tdiv 5) 6 = 0 ∨ aroundF (b.tdiv 5) 6 = 1 ∨ aroundF (b.tdiv 5) 6 = 2 ∨ aroundF (b.tdiv 5) 6 = 3 ∨ aroundF (b.tdiv 5) 6 = 4 ∨ aroundF (b.tdiv 5) 6 = 5 by omega) with e | e | e | e | e | e
    all_goals
      have hV' : V = pvA { p with rim := p.rim.set (spK p b) (([65536, 65537, -65536, -65537, 1, 2] : List Int).getD (aroundF (b.tdiv 5) 6).toNat 0, aroundF b 9) } := hV
      rw [e] at hV'
      rw [show spK p b = K by unfold spK; rw [hK]; rfl] at hV'
      rw [e]
      simp only [y1, y2, y3, t1, t2, t3, t4, t5, n3, n4, n5, n6, l1, l1', l2, l2', l3, l3', w1, w3, wd, wd5, Int.toNat_zero, Int.reduceEq, Int.reduceLT, Int.reduceLE, Int.toNat_natCast, ↓wPre, wA, ↓reduceIte, reduceIte, reduceCtorEq, Y1, Y2, Y3, Y4, Y5, Y6, Y7, Y8, Y9, YA, wE]
      refine call_fn c9 rfl ?_
      simp only [y1, y2, y3, t1, t2, t3, t4, t5, n3, n4, n5, n6, l1, l1', l2, l2', l3, l3', w1, w3, wd, wd5, Int.toNat_zero, Int.reduceEq, Int.reduceLT, Int.reduceLE, Int.toNat_natCast, ↓wPre, wA, ↓reduceIte, reduceIte, reduceCtorEq, Y1, Y2, Y3, Y4, Y5, Y6, Y7, Y8, Y9, YA, wE]
      rw [hV']
      refine retCellS rfl ldk30 rfl rfl rfl ?_
      refine sees_agg ⟨(settled_I _).sees _, (settled_I _).sees _, (seesP (p.rim.set K (_, _)) rfl (by rw [List.length_set]) (by rw [List.length_set]) fun j hj => ?_), (seesB p.worn rfl rfl (show 0 + p.worn.length ≤ p.worn.length by omega) hB'), (seesI p.marks rfl rfl rfl hI), (settled_bool _).sees _, (settled_ints _).sees _, (settled_bool _).sees _, (settled_ints _).sees _, (settled_bool _).sees _, (settled_ints _).sees _, (settled_bool _).sees _, (settled_ints _).sees _, (settled_bool _).sees _, (settled_ints _).sees _, (settled_bool _).sees _, (settled_ints _).sees _, (settled_bool _).sees _, (settled_ints _).sees _, (settled_bool _).sees _, (settled_ints _).sees _, (settled_bool _).sees _, (settled_ints _).sees _, (settled_bool _).sees _, ((settled_ints _).sees _), trivial⟩
      rw [List.length_set] at hj
      rw [slFs_set2 _ _ _ _ (by omega), ← hP j hj]
      rfl
  · have hV' : V = pvA { p with rim := p.rim ++ [(aroundF b 9, aroundF (b.tdiv 9) 9)] } := hV
    have c99 := around01_fn (b.tdiv 9) 9 h9 (by omega)
    simp only [t1, t2, t3, t4, t5, n3, n4, n5, n6, l1, l1', l2, l2', l3, l3', w1, w3, wd, wd5, Int.toNat_zero, Int.reduceEq, Int.reduceLT, Int.reduceLE, ↓wPre, wA, ↓reduceIte, reduceIte, reduceCtorEq, Y1, Y2, Y3, Y4, Y5, Y6, Y7, Y8, Y9, YA, wE]
    refine call_fn c9 rfl ?_
    simp only [t1, t2, t3, t4, t5, n3, n4, n5, n6, l1, l1', l2, l2', l3, l3', w1, w3, wd, wd5, Int.toNat_zero, Int.reduceEq, Int.reduceLT, Int.reduceLE, ↓wPre, wA, ↓reduceIte, reduceIte, reduceCtorEq, Y1, Y2, Y3, Y4, Y5, Y6, Y7, Y8, Y9, YA, wE]
    refine call_fn c99 rfl ?_
    simp only [t1, t2, t3, t4, t5, n3, n4, n5, n6, l1, l1', l2, l2', l3, l3', w1, w3, wd, wd5, Int.toNat_zero, Int.reduceEq, Int.reduceLT, Int.reduceLE, ↓wPre, wA, ↓reduceIte, reduceIte, reduceCtorEq, Y1, Y2, Y3, Y4, Y5, Y6, Y7, Y8, Y9, YA, wE]
    refine ⟨⟨fun j hj => ?_, by omega, by omega⟩, ?_⟩
    · match j, hj with
      | 0, _ => rfl
      | 1, _ => rfl
      | j + 2, h => omega
    rw [hV']
    refine retCellS rfl ldk30 rfl rfl rfl ?_
    refine sees_agg ⟨(settled_I _).sees _, (settled_I _).sees _, (seesP (p.rim ++ [(_, _)]) rfl (by simp) (by simp) fun j hj => ?_), (seesB p.worn rfl rfl (show 0 + p.worn.length ≤ p.worn.length by omega) hB'), (seesI p.marks rfl rfl rfl hI), (settled_bool _).sees _, (settled_ints _).sees _, (settled_bool _).sees _, (settled_ints _).sees _, (settled_bool _).sees _, (settled_ints _).sees _, (settled_bool _).sees _, (settled_ints _).sees _, (settled_bool _).sees _, (settled_ints _).sees _, (settled_bool _).sees _, (settled_ints _).sees _, (settled_bool _).sees _, (settled_ints _).sees _, (settled_bool _).sees _, (settled_ints _).sees _, (settled_bool _).sees _, (settled_ints _).sees _, (settled_bool _).sees _, ((settled_ints _).sees _), trivial⟩
    rw [← appFs_one ptC 2 (0, 0) p.rim (aroundF b 9, aroundF (b.tdiv 9) 9) (by omega)]
    rw [List.length_append, List.length_singleton] at hj
    exact appF_base hP j (by omega)
  · have hV' : V = pvA { p with worn := p.worn.drop 1 } := hV
    simp only [t1, t2, t3, t4, t5, n3, n4, n5, n6, l1, l1', l2, l2', l3, l3', w1, w3, wd, wd5, Int.toNat_zero, Int.reduceEq, Int.reduceLT, Int.reduceLE, ↓wPre, wA, ↓reduceIte, reduceIte, reduceCtorEq, Y1, Y2, Y3, Y4, Y5, Y6, Y7, Y8, Y9, YA, wE]
    refine ⟨by omega, ?_⟩
    rw [hV']
    refine retCellS rfl ldk30 rfl rfl rfl ?_
    refine sees_agg ⟨(settled_I _).sees _, (settled_I _).sees _, (seesP p.rim rfl rfl rfl hP), (seesB (p.worn.drop 1) rfl (by rw [List.length_drop]; omega) (by rw [List.length_drop]; omega) fun j hj => ?_), (seesI p.marks rfl rfl rfl hI), (settled_bool _).sees _, (settled_ints _).sees _, (settled_bool _).sees _, (settled_ints _).sees _, (settled_bool _).sees _, (settled_ints _).sees _, (settled_bool _).sees _, (settled_ints _).sees _, (settled_bool _).sees _, (settled_ints _).sees _, (settled_bool _).sees _, (settled_ints _).sees _, (settled_bool _).sees _, (settled_ints _).sees _, (settled_bool _).sees _, (settled_ints _).sees _, (settled_bool _).sees _, (settled_ints _).sees _, (settled_bool _).sees _, ((settled_ints _).sees _), trivial⟩
    rw [List.length_drop] at hj
    rw [hB (1 + j) (by omega)]
    rw [List.getD_eq_getElem?_getD, List.getD_eq_getElem?_getD, List.getElem?_drop]
  · have hV' : V = pvA { p with marks := p.marks ++ [aroundF b 3] } := hV
    have c3 := around01_fn b 3 hb (by omega)
    simp only [t1, t2, t3, t4, t5, n3, n4, n5, n6, l1, l1', l2, l2', l3, l3', w1, w3, wd, wd5, Int.toNat_zero, Int.reduceEq, Int.reduceLT, Int.reduceLE, ↓wPre, wA, ↓reduceIte, reduceIte, reduceCtorEq, Y1, Y2, Y3, Y4, Y5, Y6, Y7, Y8, Y9, YA, wE]
    refine call_fn c3 rfl ?_
    simp only [t1, t2, t3, t4, t5, n3, n4, n5, n6, l1, l1', l2, l2', l3, l3', w1, w3, wd, wd5, Int.toNat_zero, Int.reduceEq, Int.reduceLT, Int.reduceLE, ↓wPre, wA, ↓reduceIte, reduceIte, reduceCtorEq, Y1, Y2, Y3, Y4, Y5, Y6, Y7, Y8, Y9, YA, wE]
    refine ⟨⟨by omega, by omega⟩, ?_⟩
    rw [hV']
    refine retCellS rfl ldk30 rfl rfl rfl ?_
    refine sees_agg ⟨(settled_I _).sees _, (settled_I _).sees _, (seesP p.rim rfl rfl rfl hP), (seesB p.worn rfl rfl (show 0 + p.worn.length ≤ p.worn.length by omega) hB'), (seesI (p.marks ++ [_]) rfl (by simp) (by simp) fun j hj => ?_), (settled_bool _).sees _, (settled_ints _).sees _, (settled_bool _).sees _, (settled_ints _).sees _, (settled_bool _).sees _, (settled_ints _).sees _, (settled_bool _).sees _, (settled_ints _).sees _, (settled_bool _).sees _, (settled_ints _).sees _, (settled_bool _).sees _, (settled_ints _).sees _, (settled_bool _).sees _, (settled_ints _).sees _, (settled_bool _).sees _, (settled_ints _).sees _, (settled_bool _).sees _, (settled_ints _).sees _, (settled_bool _).sees _, ((settled_ints _).sees _), trivial⟩
    rw [List.length_append, List.length_singleton] at hj
    rw [getD_app1]
    unfold appF
    by_cases h : j < p.marks.length
    · rw [if_pos h, if_pos h]
      have := hI j h
      unfold appF at this
      exact this
    · have h2 : j = p.marks.length := by omega
      rw [if_neg h, if_neg h, if_pos (by omega), if_pos h2, h2, Nat.sub_self]
      rfl
  · have c4 := around01_fn b 5 hb (by omega)
    have b4 := aroundF_bound b 5 (by omega)
    simp only [t1, t2, t3, t4, t5, n3, n4, n5, n6, l1, l1', l2, l2', l3, l3', w1, w3, wd, wd5, Int.toNat_zero, Int.reduceEq, Int.reduceLT, Int.reduceLE, ↓wPre, wA, ↓reduceIte, reduceIte, reduceCtorEq, Y1, Y2, Y3, Y4, Y5, Y6, Y7, Y8, Y9, YA, wE]
    refine call_fn c4 rfl ?_
    rcases (show aroundF b 5 = 0 ∨ aroundF b 5 = 1 ∨ aroundF b 5 = 2 ∨ aroundF b 5 = 3 ∨ aroundF b 5 = 4 by omega) with e | e | e | e | e
    all_goals
      have hV' : V = pvA { p with marks := p.marks.set 0 (([-1, 1025, 1024, 0, 7] : List Int).getD (aroundF b 5).toNat 0) } := hV
      rw [e] at hV'
      rw [e]
      simp only [t1, t2, t3, t4, t5, n3, n4, n5, n6, l1, l1', l2, l2', l3, l3', w1, w3, wd, wd5, Int.toNat_zero, Int.reduceEq, Int.reduceLT, Int.reduceLE, ↓wPre, wA, ↓reduceIte, reduceIte, reduceCtorEq, Y1, Y2, Y3, Y4, Y5, Y6, Y7, Y8, Y9, YA, wE]
      refine ⟨by omega, ?_⟩
      rw [hV']
      refine retCellS rfl ldk30 rfl rfl rfl ?_
      refine sees_agg ⟨(settled_I _).sees _, (settled_I _).sees _, (seesP p.rim rfl rfl rfl hP), (seesB p.worn rfl rfl (show 0 + p.worn.length ≤ p.worn.length by omega) hB'), (seesI (p.marks.set 0 _) rfl (by rw [List.length_set]) (by rw [List.length_set]) fun j hj => ?_), (settled_bool _).sees _, (settled_ints _).sees _, (settled_bool _).sees _, (settled_ints _).sees _, (settled_bool _).sees _, (settled_ints _).sees _, (settled_bool _).sees _, (settled_ints _).sees _, (settled_bool _).sees _, (settled_ints _).sees _, (settled_bool _).sees _, (settled_ints _).sees _, (settled_bool _).sees _, (settled_ints _).sees _, (settled_bool _).sees _, (settled_ints _).sees _, (settled_bool _).sees _, (settled_ints _).sees _, (settled_bool _).sees _, ((settled_ints _).sees _), trivial⟩
      rw [List.length_set] at hj
      rw [getD_set _ _ _ _ _ (by omega)]
      unfold upd
      by_cases h : j = 0
      · rw [if_pos h, if_pos h]; rfl
      · rw [if_neg h, if_neg h]; exact hI j hj
  · have hV' : V = pvA { p with tol := RQ.of (spA b) } := hV
    simp only [t1, t2, t3, t4, t5, n3, n4, n5, n6, l1, l1', l2, l2', l3, l3', w1, w3, wd, wd5, Int.toNat_zero, Int.reduceEq, Int.reduceLT, Int.reduceLE, ↓wPre, wA, ↓reduceIte, reduceIte, reduceCtorEq, Y1, Y2, Y3, Y4, Y5, Y6, Y7, Y8, Y9, YA, wE]
    rw [hV']
    refine retCellS rfl ldk30 rfl rfl rfl ?_
    exact sees_agg ⟨(settled_I _).sees _, (settled_I _).sees _, (seesP p.rim rfl rfl rfl hP), (seesB p.worn rfl rfl (show 0 + p.worn.length ≤ p.worn.length by omega) hB'), (seesI p.marks rfl rfl rfl hI), (settled_bool _).sees _, (settled_ints _).sees _, (settled_bool _).sees _, (settled_ints _).sees _, (settled_bool _).sees _, (settled_ints _).sees _, (settled_bool _).sees _, (settled_ints _).sees _, (settled_bool _).sees _, (settled_ints _).sees _, (settled_bool _).sees _, (settled_ints _).sees _, (settled_bool _).sees _, (settled_ints _).sees _, (settled_bool _).sees _, (settled_ints _).sees _, (settled_bool _).sees _, (settled_ints _).sees _, (settled_bool _).sees _, ((settled_ints _).sees _), trivial⟩
  · have hV' : V = pvA { p with light := RQ.of (spA b) } := hV
    simp only [t1, t2, t3, t4, t5, n3, n4, n5, n6, l1, l1', l2, l2', l3, l3', w1, w3, wd, wd5, Int.toNat_zero, Int.reduceEq, Int.reduceLT, Int.reduceLE, ↓wPre, wA, ↓reduceIte, reduceIte, reduceCtorEq, Y1, Y2, Y3, Y4, Y5, Y6, Y7, Y8, Y9, YA, wE]
    rw [hV']
    refine retCellS rfl ldk30 rfl rfl rfl ?_
    exact sees_agg ⟨(settled_I _).sees _, (settled_I _).sees _, (seesP p.rim rfl rfl rfl hP), (seesB p.worn rfl rfl (show 0 + p.worn.length ≤ p.worn.length by omega) hB'), (seesI p.marks rfl rfl rfl hI), (settled_bool _).sees _, (settled_ints _).sees _, (settled_bool _).sees _, (settled_ints _).sees _, (settled_bool _).sees _, (settled_ints _).sees _, (settled_bool _).sees _, (settled_ints _).sees _, (settled_bool _).sees _, (settled_ints _).sees _, (settled_bool _).sees _, (settled_ints _).sees _, (settled_bool _).sees _, (settled_ints _).sees _, (settled_bool _).sees _, (settled_ints _).sees _, (settled_bool _).sees _, (settled_ints _).sees _, (settled_bool _).sees _, ((settled_ints _).sees _), trivial⟩
  · have c3 := around01_fn b 3 hb (by omega)
    have b3 := aroundF_bound b 3 (by omega)
    have o1 := of04_fn 1000 1 ⟨by omega, by omega⟩ ⟨by omega, by omega⟩
    have o2 := of04_fn 1001 1 ⟨by omega, by omega⟩ ⟨by omega, by omega⟩
    simp only [t1, t2, t3, t4, t5, n3, n4, n5, n6, l1, l1', l2, l2', l3, l3', w1, w3, wd, wd5, Int.toNat_zero, Int.reduceEq, Int.reduceLT, Int.reduceLE, ↓wPre, wA, ↓reduceIte, reduceIte, reduceCtorEq, Y1, Y2, Y3, Y4, Y5, Y6, Y7, Y8, Y9, YA, wE]
    refine call_fn o1 rfl ?_
    simp only [t1, t2, t3, t4, t5, n3, n4, n5, n6, l1, l1', l2, l2', l3, l3', w1, w3, wd, wd5, Int.toNat_zero, Int.reduceEq, Int.reduceLT, Int.reduceLE, ↓wPre, wA, ↓reduceIte, reduceIte, reduceCtorEq, Y1, Y2, Y3, Y4, Y5, Y6, Y7, Y8, Y9, YA, wE]
    refine call_fn o2 rfl ?_
    simp only [t1, t2, t3, t4, t5, n3, n4, n5, n6, l1, l1', l2, l2', l3, l3', w1, w3, wd, wd5, Int.toNat_zero, Int.reduceEq, Int.reduceLT, Int.reduceLE, ↓wPre, wA, ↓reduceIte, reduceIte, reduceCtorEq, Y1, Y2, Y3, Y4, Y5, Y6, Y7, Y8, Y9, YA, wE]
    refine call_fn c3 rfl ?_
    rcases (show aroundF b 3 = 0 ∨ aroundF b 3 = 1 ∨ aroundF b 3 = 2 by omega) with e | e | e
    all_goals
      have hV' : V = pvA { p with heavy := RQ.of (([spA b, Rat.divInt 1000 1, Rat.divInt 1001 1] : List Rat).getD (aroundF b 3).toNat 0) } := hV
      rw [e] at hV'
      rw [e]
      simp only [t1, t2, t3, t4, t5, n3, n4, n5, n6, l1, l1', l2, l2', l3, l3', w1, w3, wd, wd5, Int.toNat_zero, Int.reduceEq, Int.reduceLT, Int.reduceLE, ↓wPre, wA, ↓reduceIte, reduceIte, reduceCtorEq, Y1, Y2, Y3, Y4, Y5, Y6, Y7, Y8, Y9, YA, wE]
      rw [hV']
      refine retCellS rfl ldk30 rfl rfl rfl ?_
      exact sees_agg ⟨(settled_I _).sees _, (settled_I _).sees _, (seesP p.rim rfl rfl rfl hP), (seesB p.worn rfl rfl (show 0 + p.worn.length ≤ p.worn.length by omega) hB'), (seesI p.marks rfl rfl rfl hI), (settled_bool _).sees _, (settled_ints _).sees _, (settled_bool _).sees _, (settled_ints _).sees _, (settled_bool _).sees _, (settled_ints _).sees _, (settled_bool _).sees _, (settled_ints _).sees _, (settled_bool _).sees _, (settled_ints _).sees _, (settled_bool _).sees _, (settled_ints _).sees _, (settled_bool _).sees _, (settled_ints _).sees _, (settled_bool _).sees _, (settled_ints _).sees _, (settled_bool _).sees _, (settled_ints _).sees _, (settled_bool _).sees _, ((settled_ints _).sees _), trivial⟩
  · have hV' : V = pvA { p with strength := RQ.of (spA b) } := hV
    simp only [t1, t2, t3, t4, t5, n3, n4, n5, n6, l1, l1', l2, l2', l3, l3', w1, w3, wd, wd5, Int.toNat_zero, Int.reduceEq, Int.reduceLT, Int.reduceLE, ↓wPre, wA, ↓reduceIte, reduceIte, reduceCtorEq, Y1, Y2, Y3, Y4, Y5, Y6, Y7, Y8, Y9, YA, wE]
    rw [hV']
    refine retCellS rfl ldk30 rfl rfl rfl ?_
    exact sees_agg ⟨(settled_I _).sees _, (settled_I _).sees _, (seesP p.rim rfl rfl rfl hP), (seesB p.worn rfl rfl (show 0 + p.worn.length ≤ p.worn.length by omega) hB'), (seesI p.marks rfl rfl rfl hI), (settled_bool _).sees _, (settled_ints _).sees _, (settled_bool _).sees _, (settled_ints _).sees _, (settled_bool _).sees _, (settled_ints _).sees _, (settled_bool _).sees _, (settled_ints _).sees _, (settled_bool _).sees _, (settled_ints _).sees _, (settled_bool _).sees _, (settled_ints _).sees _, (settled_bool _).sees _, (settled_ints _).sees _, (settled_bool _).sees _, (settled_ints _).sees _, (settled_bool _).sees _, (settled_ints _).sees _, (settled_bool _).sees _, ((settled_ints _).sees _), trivial⟩
  · have hV' : V = pvA { p with rough := RQ.of (spA b) } := hV
    simp only [t1, t2, t3, t4, t5, n3, n4, n5, n6, l1, l1', l2, l2', l3, l3', w1, w3, wd, wd5, Int.toNat_zero, Int.reduceEq, Int.reduceLT, Int.reduceLE, ↓wPre, wA, ↓reduceIte, reduceIte, reduceCtorEq, Y1, Y2, Y3, Y4, Y5, Y6, Y7, Y8, Y9, YA, wE]
    rw [hV']
    refine retCellS rfl ldk30 rfl rfl rfl ?_
    exact sees_agg ⟨(settled_I _).sees _, (settled_I _).sees _, (seesP p.rim rfl rfl rfl hP), (seesB p.worn rfl rfl (show 0 + p.worn.length ≤ p.worn.length by omega) hB'), (seesI p.marks rfl rfl rfl hI), (settled_bool _).sees _, (settled_ints _).sees _, (settled_bool _).sees _, (settled_ints _).sees _, (settled_bool _).sees _, (settled_ints _).sees _, (settled_bool _).sees _, (settled_ints _).sees _, (settled_bool _).sees _, (settled_ints _).sees _, (settled_bool _).sees _, (settled_ints _).sees _, (settled_bool _).sees _, (settled_ints _).sees _, (settled_bool _).sees _, (settled_ints _).sees _, (settled_bool _).sees _, (settled_ints _).sees _, (settled_bool _).sees _, ((settled_ints _).sees _), trivial⟩
  · have hV' : V = pvA { p with rough := ⟨p.rough.pn, p.rough.pd, false, [1]⟩ } := hV
    simp only [t1, t2, t3, t4, t5, n3, n4, n5, n6, l1, l1', l2, l2', l3, l3', w1, w3, wd, wd5, Int.toNat_zero, Int.reduceEq, Int.reduceLT, Int.reduceLE, ↓wPre, wA, ↓reduceIte, reduceIte, reduceCtorEq, Y1, Y2, Y3, Y4, Y5, Y6, Y7, Y8, Y9, YA, wE]
    rw [hV']
    refine retCellS rfl ldk30 rfl rfl rfl ?_
    exact sees_agg ⟨(settled_I _).sees _, (settled_I _).sees _, (seesP p.rim rfl rfl rfl hP), (seesB p.worn rfl rfl (show 0 + p.worn.length ≤ p.worn.length by omega) hB'), (seesI p.marks rfl rfl rfl hI), (settled_bool _).sees _, (settled_ints _).sees _, (settled_bool _).sees _, (settled_ints _).sees _, (settled_bool _).sees _, (settled_ints _).sees _, (settled_bool _).sees _, (settled_ints _).sees _, (settled_bool _).sees _, (settled_ints _).sees _, (settled_bool _).sees _, (settled_ints _).sees _, (settled_bool _).sees _, (settled_ints _).sees _, (settled_bool _).sees _, (settled_ints _).sees _, (settled_bool _).sees _, (settled_ints _).sees _, (settled_bool _).sees _, (sees_of_weak (settled_ints _) (weak_slW rfl (Nat.le_refl _) fun j hj => by match j, hj with | 0, _ => exact Weak.rfl' _ | j + 1, h => exact absurd h (by show ¬ j + 1 < 1; omega))), trivial⟩
  · have hV' : V = pvA { p with worn := p.worn.set 0 (!p.worn.getD 0 false) } := hV
    have hw0 := hB 0 (by omega)
    simp only [hw0, t1, t2, t3, t4, t5, n3, n4, n5, n6, l1, l1', l2, l2', l3, l3', w1, w3, wd, wd5, Int.toNat_zero, Int.reduceEq, Int.reduceLT, Int.reduceLE, ↓wPre, wA, ↓reduceIte, reduceIte, reduceCtorEq, Y1, Y2, Y3, Y4, Y5, Y6, Y7, Y8, Y9, YA, wE]
    refine ⟨by omega, ?_⟩
    rw [hV']
    refine retCellS rfl ldk30 rfl rfl rfl ?_
    refine sees_agg ⟨(settled_I _).sees _, (settled_I _).sees _, (seesP p.rim rfl rfl rfl hP), (seesB (p.worn.set 0 _) rfl (by rw [List.length_set]) (by rw [List.length_set]; omega) fun j hj => ?_), (seesI p.marks rfl rfl rfl hI), (settled_bool _).sees _, (settled_ints _).sees _, (settled_bool _).sees _, (settled_ints _).sees _, (settled_bool _).sees _, (settled_ints _).sees _, (settled_bool _).sees _, (settled_ints _).sees _, (settled_bool _).sees _, (settled_ints _).sees _, (settled_bool _).sees _, (settled_ints _).sees _, (settled_bool _).sees _, (settled_ints _).sees _, (settled_bool _).sees _, (settled_ints _).sees _, (settled_bool _).sees _, (settled_ints _).sees _, (settled_bool _).sees _, ((settled_ints _).sees _), trivial⟩
    rw [List.length_set] at hj
    rw [getD_set _ _ _ _ _ (by omega), Nat.zero_add]
    unfold upd
    by_cases h : j = 0
    · rw [if_pos h, if_pos h]
    · rw [if_neg h, if_neg h]; exact hB j hj
end
end Go.Ab.N
namespace Go.Ab.N
open Go Go.RowKit Go.Proofs
noncomputable section
set_option maxRecDepth 10000
set_option maxHeartbeats 4000000
open Classical

/-! ### The generator's pieces are valid -/
theorem quart_ok (k m : Int) (hk : 0 ≤ k ∧ k ≤ 4) : 0 ≤ Rat.divInt k 4 ∧ Rat.divInt k 4 ≤ 1 := by
  rcases (show k = 0 ∨ k = 1 ∨ k = 2 ∨ k = 3 ∨ k = 4 by omega) with rfl | rfl | rfl | rfl | rfl <;> exact ⟨by decide +kernel, by decide +kernel⟩
theorem half_ok (k : Int) (hk : 0 ≤ k ∧ k ≤ 6) : 0 ≤ Rat.divInt k 2 ∧ Rat.divInt k 2 ≤ 3 := by
  rcases (show k = 0 ∨ k = 1 ∨ k = 2 ∨ k = 3 ∨ k = 4 ∨ k = 5 ∨ k = 6 by omega) with rfl | rfl | rfl | rfl | rfl | rfl | rfl <;> exact ⟨by decide +kernel, by decide +kernel⟩
theorem half_pos (k : Int) (hk : 1 ≤ k ∧ k ≤ 6) : 0 < Rat.divInt k 2 := by
  rcases (show k = 1 ∨ k = 2 ∨ k = 3 ∨ k = 4 ∨ k = 5 ∨ k = 6 by omega) with rfl | rfl | rfl | rfl | rfl | rfl <;> decide +kernel
theorem divInt_pos (n : Int) (h : 0 < n) : 0 < Rat.divInt n 1 := by
  rw [divInt_one, ← sign_gt, Rat.num_intCast]
  exact Int.sign_pos_iff.2 h
theorem range_len (l : List Int) : (pieceG l).rim.length = (rimF l).length ∧ (pieceG l).worn.length = (rimF l).length ∧ (pieceG l).marks.length = (rimF l).length := ⟨rfl, by simp [pieceG], by simp [pieceG]⟩
theorem pieceG_fine (l : List Int) : refErr (pieceG l) = 0 := by
  have hro := rimF_ok l
  have b8 := atF_bound l 8 40 (by omega)
  have b9 := atF_bound l 9 5 (by omega)
  have b10 := atF_bound l 10 3 (by omega)
  have b11 := atF_bound l 11 6 (by omega)
  have b12 := atF_bound l 12 4 (by omega)
  have b13 := atF_bound l 13 100 (by omega)
  have b14 := atF_bound l 14 5 (by omega)
  have hl := range_len l
  have hro1 := hro.1
  rw [refErr_0]
  refine ⟨⟨rimIn_pt hro.2.1, fun i hi => ?_, ?_, ?_⟩, ⟨?_, ?_, ?_⟩, ⟨tolQ l, lightQ l, heavyQ l, strQ l, rouQ l, ⟨rfl, rfl, rfl, rfl, rfl⟩, ?_, ?_, ?_⟩, hro.2.2⟩
  · rw [hl.2.2] at hi
    have e : (pieceG l).marks.getD i 0 = markM l i := map_at _ _ _ _ hi
    have b20 := atF_bound l (20 + (i : Int)) 5 (by omega)
    have e20 : (Ab.atF l (20 + (i : Int)) 5).tdiv 2 = Ab.atF l (20 + (i : Int)) 5 / 2 := Int.tdiv_eq_ediv_of_nonneg b20.1
    rw [e]
    unfold markOk wb markM
    simp only [Bool.and_eq_true, decide_eq_true_eq]
    omega
  · unfold wb pieceG; simp only [Bool.and_eq_true, decide_eq_true_eq]; omega
  · unfold wb pieceG; simp only [Bool.and_eq_true, decide_eq_true_eq]; omega
  · rw [hl.1]; omega
  · rw [hl.1, hl.2.1]
  · rw [hl.1, hl.2.2]
  · have h1 := quart_ok (Ab.atF l 10 3) 0 (by omega)
    have h2 := quart_ok (Ab.atF l 14 5) 0 (by omega)
    have h3 : (1 : Rat) ≤ 4 := by decide +kernel
    exact ⟨h1.1, Rat.le_trans h1.2 h3, h2.1, Rat.le_trans h2.2 h3⟩
  · have h1 := half_pos (1 + Ab.atF l 11 6) (by omega)
    have h2 := half_ok (1 + Ab.atF l 11 6) (by omega)
    have h3 := half_ok (Ab.atF l 12 4) (by omega)
    refine ⟨h1, le_add_self h3.1, ?_⟩
    show Rat.divInt (1 + Ab.atF l 11 6) 2 + Rat.divInt (Ab.atF l 12 4) 2 ≤ 1000
    generalize Rat.divInt (1 + Ab.atF l 11 6) 2 = x at *
    generalize Rat.divInt (Ab.atF l 12 4) 2 = y at *
    have h4 : x + y ≤ 3 + 3 := by grind
    exact Rat.le_trans h4 (by decide +kernel)
  · exact divInt_pos _ (by omega)
theorem pieceG_small (l : List Int) : (pieceG l).small := by
  have hro := (rimF_ok l).1
  have b10 := atF_bound l 10 3 (by omega)
  have b11 := atF_bound l 11 6 (by omega)
  have b12 := atF_bound l 12 4 (by omega)
  have b13 := atF_bound l 13 100 (by omega)
  have b14 := atF_bound l 14 5 (by omega)
  have hl := range_len l
  have z := fun (n m : Int) (h1 : in64 n) (h2 : in64 m) => sz_div n m h1 h2
  have q1 := qb_div (1 + Ab.atF l 11 6) 2 ⟨by omega, by omega⟩ ⟨by omega, by omega⟩
  have q2 := qb_div (Ab.atF l 12 4) 2 ⟨by omega, by omega⟩ ⟨by omega, by omega⟩
  have q3 := qb_add (Rat.divInt (1 + Ab.atF l 11 6) 2) (Rat.divInt (Ab.atF l 12 4) 2)
  have q4 := RQ.of_sz (Rat.divInt (1 + Ab.atF l 11 6) 2 + Rat.divInt (Ab.atF l 12 4) 2)
  refine ⟨by rw [hl.1]; omega, by rw [hl.2.1]; omega, by rw [hl.2.2]; omega, ?_, ?_, ?_, ?_, ?_⟩
  · exact Nat.le_trans (z (Ab.atF l 10 3) 4 ⟨by omega, by omega⟩ ⟨by omega, by omega⟩) (by omega)
  · exact Nat.le_trans (z (1 + Ab.atF l 11 6) 2 ⟨by omega, by omega⟩ ⟨by omega, by omega⟩) (by omega)
  · show (RQ.of (Rat.divInt (1 + Ab.atF l 11 6) 2 + Rat.divInt (Ab.atF l 12 4) 2)).sz ≤ _
    omega
  · exact Nat.le_trans (z (20 + Ab.atF l 13 100) 1 ⟨by omega, by omega⟩ ⟨by omega, by omega⟩) (by omega)
  · exact Nat.le_trans (z (Ab.atF l 14 5) 4 ⟨by omega, by omega⟩ ⟨by omega, by omega⟩) (by omega)
theorem castC_small {p : PV} (hp : p.small) (id home : Int) {a q : Rat} (ha : qb a ≤ 10000) (hq : qb q ≤ 10000) : (castC p id home (a + q)).small := by
  have h1 := RQ.of_sz (a + q)
  have h2 := qb_add a q
  exact ⟨hp.rim, hp.worn, hp.marks, by show (RQ.of (a + q)).sz ≤ _; omega, hp.light, hp.heavy, hp.strength, hp.rough⟩
theorem zeroP_small : zeroP.small := ⟨by show 0 < _; omega, by show 0 < _; omega, by show 0 < _; omega, by decide, by decide, by decide, by decide, by decide⟩
theorem spA_sz (b : Int) : (RQ.of (spA b)).sz ≤ 3 := by
  have b9 := aroundF_bound b 9 (by omega)
  have b93 := aroundF_bound (b.tdiv 9) 3 (by omega)
  exact sz_div _ _ ⟨by omega, by omega⟩ ⟨by omega, by omega⟩
theorem getD3 {α : Type} (P : α → Prop) (a b c d : α) (ha : P a) (hb : P b) (hc : P c) (n : Nat) (hn : n < 3) : P ([a, b, c].getD n d) := by
  match n, hn with
  | 0, _ => exact ha
  | 1, _ => exact hb
  | 2, _ => exact hc
  | n + 3, h => omega
theorem spoilt_small {p : PV} (hp : p.small) (hr : p.rim.length ≤ 1000 ∧ p.worn.length ≤ 1000 ∧ p.marks.length ≤ 1000) (hq : p.rough.sz ≤ 1000) (c b : Int) : (spoiltF p c b).small := by
  have hA := spA_sz b
  have b3 := aroundF_bound b 3 (by omega)
  have h1 := hp.tol; have h2 := hp.light; have h3 := hp.heavy; have h4 := hp.strength; have h5 := hp.rough
  have r1 := hp.rim; have r2 := hp.worn; have r3 := hp.marks
  have o1 := sz_div 1000 1 ⟨by omega, by omega⟩ ⟨by omega, by omega⟩
  have o2 := sz_div 1001 1 ⟨by omega, by omega⟩ ⟨by omega, by omega⟩
  have hh : (RQ.of (([spA b, Rat.divInt 1000 1, Rat.divInt 1001 1] : List Rat).getD (aroundF b 3).toNat 0)).sz ≤ 3 := getD3 (fun x => (RQ.of x).sz ≤ 3) _ _ _ _ hA o1 o2 _ (by omega)
  have hz : (⟨p.rough.pn, p.rough.pd, false, [1]⟩ : RQ).sz ≤ 1000000 := by
    unfold RQ.sz at hq ⊢
    simp only [List.length_singleton]
    omega
  unfold spoiltF
  by_cases g0 : c = 0
  · rw [if_pos g0]
    exact ⟨hp.rim, hp.worn, hp.marks, h1, h2, h3, h4, h5⟩
  rw [if_neg g0]
  by_cases g1 : c = 1
  · rw [if_pos g1]
    exact ⟨hp.rim, hp.worn, hp.marks, h1, h2, h3, h4, h5⟩
  rw [if_neg g1]
  by_cases g2 : c = 2
  · rw [if_pos g2]
    exact ⟨by simp; omega, hp.worn, hp.marks, h1, h2, h3, h4, h5⟩
  rw [if_neg g2]
  by_cases g3 : c = 3
  · rw [if_pos g3]
    exact ⟨by simp; omega, hp.worn, hp.marks, h1, h2, h3, h4, h5⟩
  rw [if_neg g3]
  by_cases g4 : c = 4
  · rw [if_pos g4]
    exact ⟨hp.rim, by simp; omega, hp.marks, h1, h2, h3, h4, h5⟩
  rw [if_neg g4]
  by_cases g5 : c = 5
  · rw [if_pos g5]
    exact ⟨hp.rim, hp.worn, by simp; omega, h1, h2, h3, h4, h5⟩
  rw [if_neg g5]
  by_cases g6 : c = 6
  · rw [if_pos g6]
    exact ⟨hp.rim, hp.worn, by simp; omega, h1, h2, h3, h4, h5⟩
  rw [if_neg g6]
  by_cases g7 : c = 7
  · rw [if_pos g7]
    exact ⟨hp.rim, hp.worn, hp.marks, by show (RQ.of (spA b)).sz ≤ _; omega, h2, h3, h4, h5⟩
  rw [if_neg g7]
  by_cases g8 : c = 8
  · rw [if_pos g8]
    exact ⟨hp.rim, hp.worn, hp.marks, h1, by show (RQ.of (spA b)).sz ≤ _; omega, h3, h4, h5⟩
  rw [if_neg g8]
  by_cases g9 : c = 9
  · rw [if_pos g9]
    exact ⟨hp.rim, hp.worn, hp.marks, h1, h2, Nat.le_trans hh (by omega), h4, h5⟩
  rw [if_neg g9]
  by_cases g10 : c = 10
  · rw [if_pos g10]
    exact ⟨hp.rim, hp.worn, hp.marks, h1, h2, h3, by show (RQ.of (spA b)).sz ≤ _; omega, h5⟩
  rw [if_neg g10]
  by_cases g11 : c = 11
  · rw [if_pos g11]
    exact ⟨hp.rim, hp.worn, hp.marks, h1, h2, h3, h4, by show (RQ.of (spA b)).sz ≤ _; omega⟩
  rw [if_neg g11]
  by_cases g12 : c = 12
  · rw [if_pos g12]
    exact ⟨hp.rim, hp.worn, hp.marks, h1, h2, h3, h4, hz⟩
  rw [if_neg g12]
  exact ⟨hp.rim, by simp; omega, hp.marks, h1, h2, h3, h4, h5⟩
end
end Go.Ab.N
namespace Go.Ab.N
open Go Go.RowKit Go.Proofs
noncomputable section
set_option maxRecDepth 10000
set_option maxHeartbeats 4000000
open Classical

/-! ### The law about casts -/
def numZ : RQ := ⟨false, [0], false, []⟩
def xT (tol : Int) : Nat → RQ
  | 0 => RQ.of (numF tol)
  | 1 => numZ
  | _ => RQ.of (Rat.divInt (aroundF tol 20) 4)
theorem law_fn (l : List Int) (id home tol how b : Int) (hl : all64 l) (hl2 : l.length < 9223372036854775808) (hi : in64 id) (hh : in64 home) (ht : in64 tol) (hw : in64 how) (hb : in64 b) : Fn Tryz.prog 3 [ints l, I id, I home, I tol, I how, I b] (.bool true) := by
  have cp := pieceg_fn l hl hl2
  have b20 := aroundF_bound tol 20 (by omega)
  have b100 := aroundF_bound tol 100 (by omega)
  have c20 := around01_fn tol 20 ht (by omega)
  have o20 := of04_fn (aroundF tol 20) 4 ⟨by omega, by omega⟩ ⟨by omega, by omega⟩
  have cn := number_fn tol ht
  have pe := pieceG_fine l
  have ps := pieceG_small l
  have ea : (pieceG l).tol = RQ.of (tolQ l) := rfl
  have b10 := atF_bound l 10 3 (by omega)
  have qa : qb (tolQ l) ≤ 3 := qb_div (Ab.atF l 10 3) 4 ⟨by omega, by omega⟩ ⟨by omega, by omega⟩
  generalize tolQ l = a at *
  have q20 : qb (Rat.divInt (aroundF tol 20) 4) ≤ 3 := qb_div _ _ ⟨by omega, by omega⟩ ⟨by omega, by omega⟩
  have hx : ∀ i, (xT tol i).sz ≤ 1000 := fun i => by
    match i with
    | 0 =>
      have m1 : (aroundF tol 100).tmod 25 = aroundF tol 100 % 25 := Int.tmod_eq_emod_of_nonneg b100.1
      have m2 : (aroundF tol 100).tdiv 25 = aroundF tol 100 / 25 := Int.tdiv_eq_ediv_of_nonneg b100.1
      exact Nat.le_trans (sz_div _ _ ⟨by omega, by omega⟩ ⟨by omega, by omega⟩) (by omega)
    | 1 => show numZ.sz ≤ 1000; exact (show (1 : Nat) ≤ 1000 by omega)
    | i + 2 => exact Nat.le_trans (RQ.of_sz _) (by omega)
  have hl5 := (rimF_ok l).1
  have hlen := range_len l
  have h3 : (pieceG l).rim.length ≤ 5 ∧ 0 < (pieceG l).rim.length ∧ (pieceG l).worn.length = (pieceG l).rim.length ∧ (pieceG l).marks.length = (pieceG l).rim.length := by rw [hlen.1, hlen.2.1, hlen.2.2]; omega
  have h4 : (pieceG l).rough.sz ≤ 1000 := by
    have b14 := atF_bound l 14 5 (by omega)
    exact Nat.le_trans (sz_div (Ab.atF l 14 5) 4 ⟨by omega, by omega⟩ ⟨by omega, by omega⟩) (by omega)
  clear hlen hl5
  generalize hP : pieceG l = P at *
  have k1 : ∀ i, Fn Tryz.prog 18 [pvA P, I id, I home, (xT tol i).A] (.tup [pvA (castOf P id home a (xT tol i)).1, I (castOf P id home a (xT tol i)).2]) := fun i => castof_fn P ps id home (xT tol i) (by have := hx i; omega) ea (by omega)
  have k2 : ∀ i, Fn Tryz.prog 19 [pvA P, I id, I home, (xT tol i).A] (.tup [pvA (castOf P id home a (xT tol i)).1, I (castOf P id home a (xT tol i)).2]) := fun i => by
    rw [← ref_of pe]
    exact of36_fn P ps id home (xT tol i) (by have := hx i; omega) ea (by omega)
  have vP : refErr P = 0 := pe
  obtain ⟨C, hC⟩ : ∃ C, C = castF P a b := ⟨_, rfl⟩
  have b6 := aroundF_bound b 6 (by omega)
  have q6 : qb (Rat.divInt (aroundF b 6) 4) ≤ 3 := qb_div _ _ ⟨by omega, by omega⟩ ⟨by omega, by omega⟩
  have cC := cast36_fn P b hb ea (by omega)
  rw [← hC] at cC
  have sC : C.small := hC ▸ castC_small ps _ _ (by omega) (by omega)
  have eC : C.tol = RQ.of (a + Rat.divInt (aroundF b 6) 4) := by rw [hC]; rfl
  have lC : C.rim.length = P.rim.length ∧ C.worn.length = P.worn.length ∧ C.marks.length = P.marks.length ∧ C.rough = P.rough := by rw [hC]; exact ⟨rfl, rfl, rfl, rfl⟩
  have cB := spoilt_fn C (by omega) (by omega) (by omega) how b hw hb
  obtain ⟨B, hB⟩ : ∃ B, B = spoiltF C (aroundF how 14) b := ⟨_, rfl⟩
  have sB : B.small := hB ▸ spoilt_small sC (by omega) (by rw [lC.2.2.2]; exact h4) _ _
  rw [← hB] at cB
  clear hB
  have bP : belO 1 (.con 0 25 (ofL (pvC P))) = True := eq_true (fun j _ => bel_of_settled (settled_cells (settled_pvC P) j))
  refine Fn.intro (fn := Tryz.f3) Tryz.call3 Tryz.func3 rfl mixed 24 [] [6, 70000013, 7, 80000013] [] (by kernel_rfl) (Nat.le_of_ble_eq_true rfl) (by simp [settled_ints, settled_I, settled_fn0, settled_intss, settled_bool, settled_nil, settled_zA, settled_qA, settled_vA, settled_zR, settled_ofA, settled_int, settled_pts, settled_bools]) (vc_soundN 1000 ?_); simp (config := { maxSteps := 2000000 }) only [AS.start, ↓wPre, wA, ↓reduceIte, reduceIte, reduceCtorEq, Y1, Y2, Y3, Y4, Y5, Y6, Y7, Y8, Y9, YA, wE]
  refine call_fn cp rfl ?_
  simp only [pvA, pvC, ↓wPre, wA, ↓reduceIte, reduceIte, reduceCtorEq, Y1, Y2, Y3, Y4, Y5, Y6, Y7, Y8, Y9, YA, wE]
  refine call_fn cn rfl ?_
  simp only [↓wPre, wA, ↓reduceIte, reduceIte, reduceCtorEq, Y1, Y2, Y3, Y4, Y5, Y6, Y7, Y8, Y9, YA, wE]
  refine call_fn c20 rfl ?_
  simp only [↓wPre, wA, ↓reduceIte, reduceIte, reduceCtorEq, Y1, Y2, Y3, Y4, Y5, Y6, Y7, Y8, Y9, YA, wE]
  refine call_fn o20 rfl ?_
  simp only [↓wPre, wA, ↓reduceIte, reduceIte, reduceCtorEq, Y1, Y2, Y3, Y4, Y5, Y6, Y7, Y8, Y9, YA, wE]
  have eX2 : xT tol 2 = RQ.of (Rat.divInt (aroundF tol 20) 4) := rfl
  generalize Rat.divInt (aroundF tol 20) 4 = Q at *
  have eX0 : xT tol 0 = RQ.of (numF tol) := rfl
  generalize numF tol = N at *
  have x0 : Weak (.agg [.bool (decide (N.num < 0)), ints (digs N.num.natAbs), .bool false, ints (digs (qd N))]) (xT tol 0).A := by rw [eX0]; exact Weak.rfl' _
  have x1 : Weak (.agg [.bool false, .sl 1 1 (ofL [I 0]) false, .bool false, .sl 0 0 (fun _ => .any) false]) (xT tol 1).A := weak_agg ⟨Weak.rfl' _, weak_slW rfl (Nat.le_refl _) (fun j hj => by match j, hj with | 0, _ => exact Weak.rfl' _ | j + 1, h => exact absurd h (by show ¬ j + 1 < 1; omega)), Weak.rfl' _, weak_em, trivial⟩
  have x2 : Weak (.agg [.bool (decide (Q.num < 0)), ints (digs Q.num.natAbs), .bool false, ints (digs (qd Q))]) (xT tol 2).A := by rw [eX2]; exact Weak.rfl' _
  have n3 : ((3 : Nat) : Int) = 3 := rfl
  have e0 : ((0 : Nat) : Int) = 0 := rfl
  have e1 : ((1 : Nat) : Int) = 1 := rfl
  have e2 : ((2 : Nat) : Int) = 2 := rfl
  have e3 : ((3 : Nat) : Int) = 3 := rfl
  have t1 : (1 : Int).toNat = 1 := rfl
  have t2 : (2 : Int).toNat = 2 := rfl
  have t3 : (3 : Int).toNat = 3 := rfl
  have w0 : IntKind.i64.wrap (0 + 1) = 1 := by decide
  have w1 : IntKind.i64.wrap (1 + 1) = 2 := by decide
  have w2 : IntKind.i64.wrap (2 + 1) = 3 := by decide
  have w3 : IntKind.i64.wrap (3 + 1) = 4 := by decide
  have cases1 : ∀ i, (castOf P id home a (xT tol i) = (zeroP, 1)) ∨ ∃ q : Rat, qb q ≤ 1003 ∧ 0 ≤ q ∧ castOf P id home a (xT tol i) = (castC P id home (a + q), 0) ∧ pieceErr (castC P id home (a + q)) = 0 := fun i => by
    rcases castOf_cases P id home a (xT tol i) with h | ⟨q, ⟨hq, h0⟩, h1, h2⟩
    · exact .inl h
    · refine .inr ⟨q, ?_, h0, h1, h2⟩
      have := qb_of_sz q
      have := hx i
      rw [hq] at this
      omega
  let lits : List AV := [.bool (decide (N.num < 0)), ints (digs N.num.natAbs), .bool false, ints (digs (qd N)), .bool false, .sl 1 1 (ofL [I 0]) false, .bool false, .sl 0 0 (fun _ => .any) false, .bool (decide (Q.num < 0)), ints (digs Q.num.natAbs), .bool false, ints (digs (qd Q))]
  have blit : Bel 1 (.sl 3 12 (ofL lits) true) = True := eq_true (bel_of_settled (settled_sl fun j hj => settled_cells (by
    intro x hx
    simp only [lits, List.mem_cons, List.not_mem_nil, or_false] at hx
    rcases hx with rfl | rfl | rfl | rfl | rfl | rfl | rfl | rfl | rfl | rfl | rfl | rfl
    all_goals first | exact settled_bool _ | exact settled_ints _ | exact settled_sl (fun j hj => absurd hj (Nat.not_lt_zero j)) | exact settled_sl (fun j hj => by match j, hj with | 0, _ => exact settled_I _ | j + 1, h => omega)) j))
  refine run_loop (fun i : Nat => ⟨24, [], [.any, I id, I home, .any, I how, I b, .any, .any, .any, .any, .any, .any, .bool false, .ref 0 0 0, .sl 3 12 (ofL lits) true, I i, .any, .any, .any, .any, .any, .any, .any, .any], [], [.con 0 25 (ofL (pvC P))]⟩) (fun i => i ≤ 3) (fun i => 3 - i) 0 (by omega)
    (Sub.trans (sub_con 0 rfl) (sub_mk rfl (by simp [lits, ints_def, subL, I]) (by simp [subT]) (by simp [pvC, pts_def, bools_def, ints_def, I]))) ?_
  intro i hi next
  by_cases hi3 : i < 3
  · have kc := k1 i
    have kr := k2 i
    have nx := next (i + 1)
    have hcs := cases1 i
    have hcase : i = 0 ∨ i = 1 ∨ i = 2 := by omega
    have wx : i = 0 ∨ i = 1 ∨ i = 2 := hcase
    obtain ⟨X, hX⟩ : ∃ X, X = (xT tol i).A := ⟨_, rfl⟩
    rw [← hX] at kc kr
    generalize castOf P id home a (xT tol i) = R at *
    obtain ⟨C1, E⟩ := R
    have s1 : C1.small := by
      rcases hcs with h | ⟨q, hq, h0, h1, h2⟩
      · cases h; exact zeroP_small
      · cases h1; exact castC_small ps id home (by omega) (by omega)
    have ksame := same12_fn C1 C1 s1 s1
    rw [decide_eq_true rfl] at ksame
    have hE : E = 1 ∨ (E = 0 ∧ C1.id = id ∧ Fn Tryz.prog 21 [pvA P, pvA C1] (.bool true) ∧ Fn Tryz.prog 22 [pvA C1] (I 0)) := by
      rcases hcs with h | ⟨q, hq, h0, h1, h2⟩
      · cases h; exact .inl rfl
      · cases h1
        refine .inr ⟨rfl, rfl, ?_, ?_⟩
        · have := is_fn P (castC P id home (a + q)) ps s1 (a := a) (b := a + q) ea rfl
          rwa [decide_eq_true ⟨rfl, le_add_self h0⟩] at this
        · have := piece_valid_fn (castC P id home (a + q)) s1
          rwa [h2] at this
    clear hcs k1 k2 cases1 hx
    rcases hcase with rfl | rfl | rfl
    all_goals
      refine vc_soundN 1000 ?_
      simp only [lits, pvC, n3, e0, e1, e2, e3, t1, t2, w0, w1, w2, Int.toNat_zero, Int.reduceLT, Int.reduceLE, Int.reduceEq, ↓wPre, wA, ↓reduceIte, reduceIte, reduceCtorEq, Y1, Y2, Y3, Y4, Y5, Y6, Y7, Y8, Y9, YA, wE]
      refine call_weak kc ⟨Weak.rfl' _, Weak.rfl' _, Weak.rfl' _, by rw [hX]; first | exact x0 | exact x1 | exact x2, trivial⟩ ?_
      simp only [pvA, pvC, n3, e0, e1, e2, e3, t1, t2, w0, w1, w2, Int.toNat_zero, Int.reduceLT, Int.reduceLE, Int.reduceEq, ↓wPre, wA, ↓reduceIte, reduceIte, reduceCtorEq, Y1, Y2, Y3, Y4, Y5, Y6, Y7, Y8, Y9, YA, wE]
      refine call_weak kr ⟨Weak.rfl' _, Weak.rfl' _, Weak.rfl' _, by rw [hX]; first | exact x0 | exact x1 | exact x2, trivial⟩ ?_
      simp only [pvA, pvC, n3, e0, e1, e2, e3, t1, t2, w0, w1, w2, Int.toNat_zero, Int.reduceLT, Int.reduceLE, Int.reduceEq, ↓wPre, wA, ↓reduceIte, reduceIte, reduceCtorEq, Y1, Y2, Y3, Y4, Y5, Y6, Y7, Y8, Y9, YA, wE]
      refine call_fn ksame rfl ?_
      rcases hE with hE | ⟨hE, hid, kis, kval⟩
      · subst hE
        simp only [pvA, pvC, n3, e0, e1, e2, e3, t1, t2, w0, w1, w2, Int.toNat_zero, Int.reduceLT, Int.reduceLE, Int.reduceEq, ↓wPre, wA, ↓reduceIte, reduceIte, reduceCtorEq, Y1, Y2, Y3, Y4, Y5, Y6, Y7, Y8, Y9, YA, wE]
        exact nx _ (by omega) (by omega) (sub_cut (m := 1) (Nat.zero_le _) rfl (by simp [lits, ints_def, subL, I]) (by simp [subT]) (by simp [pvC, pts_def, bools_def, ints_def, I]) (by simp [wBel, blit]) (by simp [wBel]) (by simp [bP]))
      · subst hE
        have fid : (C1.id = id) = True := eq_true hid
        simp only [pvA, pvC, fid, n3, e0, e1, e2, e3, t1, t2, w0, w1, w2, Int.toNat_zero, Int.reduceLT, Int.reduceLE, Int.reduceEq, ↓wPre, wA, ↓reduceIte, reduceIte, reduceCtorEq, Y1, Y2, Y3, Y4, Y5, Y6, Y7, Y8, Y9, YA, wE]
        refine call_fn kis rfl ?_
        simp only [pvA, pvC, fid, n3, e0, e1, e2, e3, t1, t2, w0, w1, w2, Int.toNat_zero, Int.reduceLT, Int.reduceLE, Int.reduceEq, ↓wPre, wA, ↓reduceIte, reduceIte, reduceCtorEq, Y1, Y2, Y3, Y4, Y5, Y6, Y7, Y8, Y9, YA, wE]
        refine call_fn kval rfl ?_
        simp only [pvA, pvC, fid, n3, e0, e1, e2, e3, t1, t2, w0, w1, w2, Int.toNat_zero, Int.reduceLT, Int.reduceLE, Int.reduceEq, ↓wPre, wA, ↓reduceIte, reduceIte, reduceCtorEq, Y1, Y2, Y3, Y4, Y5, Y6, Y7, Y8, Y9, YA, wE]
        exact nx _ (by omega) (by omega) (sub_cut (m := 1) (Nat.zero_le _) rfl (by simp [lits, ints_def, subL, I]) (by simp [subT]) (by simp [pvC, pts_def, bools_def, ints_def, I]) (by simp [wBel, blit]) (by simp [wBel]) (by simp [bP]))
  obtain rfl : i = 3 := by omega
  clear k1 k2 cases1 hx x0 x1 x2
  have n4 : ((4 : Nat) : Int) = 4 := rfl
  have e4 : ((4 : Nat) : Int) = 4 := rfl
  refine vc_soundN 1000 ?_
  simp only [lits, pvC, n3, e3, Int.lt_irrefl, ↓wPre, wA, ↓reduceIte, reduceIte, reduceCtorEq, Y1, Y2, Y3, Y4, Y5, Y6, Y7, Y8, Y9, YA, wE]
  refine call_fn cC rfl ?_
  simp only [pvA, pvC, ↓wPre, wA, ↓reduceIte, reduceIte, reduceCtorEq, Y1, Y2, Y3, Y4, Y5, Y6, Y7, Y8, Y9, YA, wE]
  refine call_fn cB rfl ?_
  simp only [pvA, pvC, ↓wPre, wA, ↓reduceIte, reduceIte, reduceCtorEq, Y1, Y2, Y3, Y4, Y5, Y6, Y7, Y8, Y9, YA, wE]
  let prA : Nat → PV := fun i => match i with | 0 => P | 1 => C | 2 => P | _ => B
  let prB : Nat → PV := fun i => match i with | 0 => C | 1 => P | 2 => B | _ => C
  have bps : Bel 0 (.sl 4 200 (ofL (pvC P ++ (pvC C ++ (pvC C ++ (pvC P ++ (pvC P ++ (pvC B ++ (pvC B ++ pvC C)))))))) true) = True := eq_true (bel_of_settled (settled_sl fun j hj => settled_cells (by
    intro x hx
    simp only [List.mem_append] at hx
    rcases hx with h | h | h | h | h | h | h | h <;> exact settled_pvC _ x h) j))
  refine run_loop (fun i : Nat => ⟨24, [], [.any, .any, .any, .any, .any, .any, .any, .any, .any, .any, .any, .any, .bool false, .any, .any, .any, .any, .any, .any, .any, .any, .any, .sl 4 200 (ofL (pvC P ++ (pvC C ++ (pvC C ++ (pvC P ++ (pvC P ++ (pvC B ++ (pvC B ++ pvC C)))))))) true, I i], [], []⟩) (fun i => i ≤ 4) (fun i => 4 - i) 0 (by omega)
    (sub_cut (m := 0) (Nat.zero_le _) rfl (by simp [pvC, pts_def, bools_def, ints_def, subL, I]) (by simp [subT]) (by simp) (by simp [wBel, bps]) (by simp [wBel]) (by simp)) ?_
  intro i hi next
  by_cases hi4 : i < 4
  · have nx := next (i + 1)
    have hcase : i = 0 ∨ i = 1 ∨ i = 2 ∨ i = 3 := by omega
    have sA : (prA i).small := by
      rcases hcase with rfl | rfl | rfl | rfl
      · exact ps
      · exact sC
      · exact ps
      · exact sB
    have sB' : (prB i).small := by
      rcases hcase with rfl | rfl | rfl | rfl
      · exact sC
      · exact ps
      · exact sB
      · exact sC
    have v1 := valid12_fn (prA i) sA
    have v2 := valid12_fn (prB i) sB'
    by_cases g1 : refErr (prA i) = 0
    rotate_left
    · have f1 : (refErr (prA i) = 0) = False := eq_false g1
      rcases hcase with rfl | rfl | rfl | rfl
      all_goals
        refine vc_soundN 1000 ?_
        simp only [pvC, List.cons_append, List.nil_append, n4, e0, e1, e2, e3, e4, t1, t2, t3, w0, w1, w2, w3, Int.toNat_zero, Int.reduceLT, Int.reduceLE, Int.reduceEq, ↓wPre, wA, ↓reduceIte, reduceIte, reduceCtorEq, Y1, Y2, Y3, Y4, Y5, Y6, Y7, Y8, Y9, YA, wE]
        refine call_fn v1 rfl ?_
        simp only [f1, n4, e0, e1, e2, e3, e4, t1, t2, t3, w0, w1, w2, w3, Int.toNat_zero, Int.reduceLT, Int.reduceLE, Int.reduceEq, ↓wPre, wA, ↓reduceIte, reduceIte, reduceCtorEq, Y1, Y2, Y3, Y4, Y5, Y6, Y7, Y8, Y9, YA, wE]
        exact nx _ (by omega) (by omega) (sub_mk rfl (by simp [pvC, pts_def, bools_def, ints_def, subL, I]) (by simp [subT]) rfl)
    have f1 : (refErr (prA i) = 0) = True := eq_true g1
    by_cases g2 : refErr (prB i) = 0
    rotate_left
    · have f2 : (refErr (prB i) = 0) = False := eq_false g2
      rcases hcase with rfl | rfl | rfl | rfl
      all_goals
        refine vc_soundN 1000 ?_
        simp only [pvC, List.cons_append, List.nil_append, n4, e0, e1, e2, e3, e4, t1, t2, t3, w0, w1, w2, w3, Int.toNat_zero, Int.reduceLT, Int.reduceLE, Int.reduceEq, ↓wPre, wA, ↓reduceIte, reduceIte, reduceCtorEq, Y1, Y2, Y3, Y4, Y5, Y6, Y7, Y8, Y9, YA, wE]
        refine call_fn v1 rfl ?_
        simp only [f1, n4, e0, e1, e2, e3, e4, t1, t2, t3, w0, w1, w2, w3, Int.toNat_zero, Int.reduceLT, Int.reduceLE, Int.reduceEq, ↓wPre, wA, ↓reduceIte, reduceIte, reduceCtorEq, Y1, Y2, Y3, Y4, Y5, Y6, Y7, Y8, Y9, YA, wE]
        refine call_fn v2 rfl ?_
        simp only [f1, f2, n4, e0, e1, e2, e3, e4, t1, t2, t3, w0, w1, w2, w3, Int.toNat_zero, Int.reduceLT, Int.reduceLE, Int.reduceEq, ↓wPre, wA, ↓reduceIte, reduceIte, reduceCtorEq, Y1, Y2, Y3, Y4, Y5, Y6, Y7, Y8, Y9, YA, wE]
        exact nx _ (by omega) (by omega) (sub_mk rfl (by simp [pvC, pts_def, bools_def, ints_def, subL, I]) (by simp [subT]) rfl)
    have f2 : (refErr (prB i) = 0) = True := eq_true g2
    have tl : ∀ p : PV, refErr p = 0 → ∃ t : Rat, p.tol = RQ.of t := fun p h => by
      obtain ⟨_, ⟨t, _, _, _, _, ⟨e, _⟩, _⟩, _⟩ := ((refErr_0 p).1 h).2
      exact ⟨t, e⟩
    obtain ⟨ta, eta⟩ := tl _ g1
    obtain ⟨tb, etb⟩ := tl _ g2
    have kp := is_fn (prA i) (prB i) sA sB' eta etb
    have kr := is36_fn (prA i) (prB i) sA sB' eta etb
    generalize decide (prA i = likeP (prA i) (prB i) ∧ ta ≤ tb) = W at *
    have fW : (W = W) = True := eq_self _
    have fW2 : (W == W) = true := by simp
    have fW3 : (W != W) = false := by simp
    rcases hcase with rfl | rfl | rfl | rfl
    all_goals
      refine vc_soundN 1000 ?_
      simp only [pvC, List.cons_append, List.nil_append, n4, e0, e1, e2, e3, e4, t1, t2, t3, w0, w1, w2, w3, Int.toNat_zero, Int.reduceLT, Int.reduceLE, Int.reduceEq, ↓wPre, wA, ↓reduceIte, reduceIte, reduceCtorEq, Y1, Y2, Y3, Y4, Y5, Y6, Y7, Y8, Y9, YA, wE]
      refine call_fn v1 rfl ?_
      simp only [f1, n4, e0, e1, e2, e3, e4, t1, t2, t3, w0, w1, w2, w3, Int.toNat_zero, Int.reduceLT, Int.reduceLE, Int.reduceEq, ↓wPre, wA, ↓reduceIte, reduceIte, reduceCtorEq, Y1, Y2, Y3, Y4, Y5, Y6, Y7, Y8, Y9, YA, wE]
      refine call_fn v2 rfl ?_
      simp only [f1, f2, n4, e0, e1, e2, e3, e4, t1, t2, t3, w0, w1, w2, w3, Int.toNat_zero, Int.reduceLT, Int.reduceLE, Int.reduceEq, ↓wPre, wA, ↓reduceIte, reduceIte, reduceCtorEq, Y1, Y2, Y3, Y4, Y5, Y6, Y7, Y8, Y9, YA, wE]
      refine call_fn kp rfl ?_
      simp only [f1, f2, n4, e0, e1, e2, e3, e4, t1, t2, t3, w0, w1, w2, w3, Int.toNat_zero, Int.reduceLT, Int.reduceLE, Int.reduceEq, ↓wPre, wA, ↓reduceIte, reduceIte, reduceCtorEq, Y1, Y2, Y3, Y4, Y5, Y6, Y7, Y8, Y9, YA, wE]
      refine call_fn kr rfl ?_
      simp only [f1, f2, fW, fW2, fW3, n4, e0, e1, e2, e3, e4, t1, t2, t3, w0, w1, w2, w3, Int.toNat_zero, Int.reduceLT, Int.reduceLE, Int.reduceEq, ↓wPre, wA, ↓reduceIte, reduceIte, reduceCtorEq, Y1, Y2, Y3, Y4, Y5, Y6, Y7, Y8, Y9, YA, wE]
      exact nx _ (by omega) (by omega) (sub_mk rfl (by simp [pvC, pts_def, bools_def, ints_def, subL, I]) (by simp [subT]) rfl)
  obtain rfl : i = 4 := by omega
  refine vc_soundN 1000 ?_
  simp only [n4, e4, Int.lt_irrefl, ↓wPre, wA, ↓reduceIte, reduceIte, reduceCtorEq, Y1, Y2, Y3, Y4, Y5, Y6, Y7, Y8, Y9, YA, wE]
  refine call_fn lives_fn rfl ?_
  simp only [↓wPre, wA, ↓reduceIte, reduceIte, reduceCtorEq, Y1, Y2, Y3, Y4, Y5, Y6, Y7, Y8, Y9, YA, wE]
  exact ret1E rfl rfl (settled_bool _) rfl
end
end Go.Ab.N
