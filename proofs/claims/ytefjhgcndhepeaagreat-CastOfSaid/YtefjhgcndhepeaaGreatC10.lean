/- Contracts of functions of these chapters, for every argument that fits, and what they need. -/
import Derived.Test.YtefjhgcndhepeaaGreatC9
import Derived.Test.YtefjhgcndhepeaaGreatC8
set_option linter.unusedSimpArgs false
set_option linter.unusedVariables false
open Nat renaming reducePow → Y1, reduceLT → Y2, reduceLeDiff → Y3, reduceEqDiff → Y4, reduceAdd → Y5, reduceMul → Y6, reduceSub → Y7, reduceBEq → Y8, reduceDiv → Y9, reduceMod → YA
namespace Go.Ab.N
open Go Go.RowKit Go.Proofs
noncomputable section
set_option maxRecDepth 10000
set_option maxHeartbeats 4000000
open Classical

/-! ### Reference 01 and small functions -/
theorem around01_fn (n m : Int) (hn : in64 n) (hm : m ≠ 0) : Fn Tryz.prog 17 [I n, I m] (I (aroundF n m)) := by
  obtain ⟨h1, h2⟩ := hn
  refine Fn.intro (fn := Tryz.f17) Tryz.call17 Tryz.func17 rfl mixed 5 [] [] [] (by kernel_rfl) (Nat.le_of_ble_eq_true rfl) (by simp [settled_ints, settled_I, settled_fn0, settled_intss, settled_bool, settled_nil, settled_zA, settled_qA, settled_vA, settled_zR, settled_ofA, settled_int, settled_pts, settled_bools]) (vc_soundN 1000 ?_); simp (config := { maxSteps := 2000000 }) only [AS.start, ↓wPre, wA, ↓reduceIte, reduceIte, reduceCtorEq, Y1, Y2, Y3, Y4, Y5, Y6, Y7, Y8, Y9, YA, wE]
  refine ⟨fun h => ⟨hm, ret1 rfl (sees_of (settled_I _) ?_)⟩, fun h => ⟨hm, ret1 rfl (sees_of (settled_I _) ?_)⟩⟩
  · have e1 : IntKind.i64.wrap (n + 1) = n + 1 := by rw [IntKind.wrap_i64]; omega
    have e2 : IntKind.i64.wrap (-(n + 1)) = -(n + 1) := by rw [IntKind.wrap_i64]; omega
    simp [AS.get, aroundF, h, e1, e2, I]
  · simp [AS.get, aroundF, h, I]
theorem at01_fn (l : List Int) (i m : Int) (hl : all64 l) (hm : m ≠ 0) : Fn Tryz.prog 74 [ints l, I i, I m] (I (Ab.atF l i m)) := by
  refine Fn.intro (fn := Tryz.f74) Tryz.call74 Tryz.func74 rfl mixed 7 [] [] [] (by kernel_rfl) (Nat.le_of_ble_eq_true rfl) (by simp [settled_ints, settled_I]) (vc_soundN 1000 ?_)
  by_cases h0 : i < 0
  · have f1 : (i < 0) = True := eq_true h0
    simp only [AS.start, ints_def, f1, ↓wPre, wA, ↓reduceIte, reduceIte, reduceCtorEq, Y1, Y2, Y3, Y4, Y5, Y6, Y7, Y8, Y9, YA, wE]
    exact ret1E (v := I 0) rfl rfl (settled_I _) (by rw [show Ab.atF l i m = 0 from if_pos (.inl h0)])
  have f1 : (i < 0) = False := eq_false h0
  by_cases h1 : (l.length : Int) ≤ i
  · have f2 : ((l.length : Int) ≤ i) = True := eq_true h1
    simp only [AS.start, ints_def, f1, f2, ↓wPre, wA, ↓reduceIte, reduceIte, reduceCtorEq, Y1, Y2, Y3, Y4, Y5, Y6, Y7, Y8, Y9, YA, wE]
    exact ret1E (v := I 0) rfl rfl (settled_I _) (by rw [show Ab.atF l i m = 0 from if_pos (.inr h1)])
  have f2 : ((l.length : Int) ≤ i) = False := eq_false h1
  have f3 : (0 ≤ i) = True := eq_true (by omega)
  have f4 : (i < (l.length : Int)) = True := eq_true (by omega)
  have f5 : (i.toNat < l.length) = True := eq_true (by omega)
  simp only [AS.start, ints_def, f1, f2, f3, f4, f5, ↓wPre, wA, ↓reduceIte, reduceIte, reduceCtorEq, Y1, Y2, Y3, Y4, Y5, Y6, Y7, Y8, Y9, YA, wE]
  refine call_fn (around01_fn _ m (all64_at hl i.toNat) hm) rfl ?_
  simp only [↓wPre, wA, ↓reduceIte, reduceIte, reduceCtorEq, Y1, Y2, Y3, Y4, Y5, Y6, Y7, Y8, Y9, YA, wE]
  exact ret1E (v := I (aroundF (l.getD i.toNat 0) m)) rfl rfl (settled_I _) (by rw [show Ab.atF l i m = aroundF (l.getD i.toNat 0) m from if_neg (by omega)])
theorem same01_fn (a b : List Int) (ha : a.length < 4611686018427387904) : Fn Tryz.prog 85 [ints a, ints b] (.bool (decide (a = b))) := by
  obtain ⟨V, hV⟩ : ∃ V, V = decide (a = b) := ⟨_, rfl⟩
  rw [← hV]
  refine Fn.intro (fn := Tryz.f85) Tryz.call85 Tryz.func85 rfl mixed 6 [] [] [] (by kernel_rfl) (Nat.le_of_ble_eq_true rfl) (by simp [settled_ints]) (vc_soundN 1000 ?_)
  by_cases hl : a.length = b.length
  rotate_left
  · have f1 : ((a.length : Int) = b.length) = False := eq_false (by omega)
    have f1' : (a.length = b.length) = False := eq_false hl
    simp only [AS.start, ints_def, f1, f1', ↓wPre, wA, ↓reduceIte, reduceIte, reduceCtorEq, Y1, Y2, Y3, Y4, Y5, Y6, Y7, Y8, Y9, YA, wE]
    exact ret1E (v := .bool false) rfl rfl (settled_bool _) (by rw [hV, decide_eq_false fun e => hl (by rw [e])])
  have f1 : ((a.length : Int) = b.length) = True := eq_true (by omega)
  have f1' : (a.length = b.length) = True := eq_true hl
  simp only [AS.start, ints_def, f1, f1', ↓wPre, wA, ↓reduceIte, reduceIte, reduceCtorEq, Y1, Y2, Y3, Y4, Y5, Y6, Y7, Y8, Y9, YA, wE]
  refine run_loop (fun j : Nat => ⟨6, [], [ints a, ints b, .any, .any, .bool false, I j], [], []⟩) (fun j => j ≤ a.length ∧ ∀ i, i < j → a.getD i 0 = b.getD i 0) (fun j => a.length - j) 0 ⟨by omega, by omega⟩
    (sub_mk rfl (by simp [subL, ints_def, I, hl]) (by simp [subT]) rfl) ?_
  rintro j ⟨hj, hno⟩ next
  have w1 := wj j (by omega)
  by_cases hj2 : j < a.length
  rotate_left
  · have f2 : ((j : Int) < a.length) = False := eq_false (by omega)
    have f3 : (j < a.length) = False := eq_false hj2
    refine vc_soundN 1000 ?_
    simp only [ints_def, w1, f2, f3, ↓wPre, wA, ↓reduceIte, reduceIte, reduceCtorEq, Y1, Y2, Y3, Y4, Y5, Y6, Y7, Y8, Y9, YA, wE]
    refine ret1E (v := .bool true) rfl rfl (settled_bool _) ?_
    rw [hV, decide_eq_true]
    refine List.ext_getElem hl fun i h1 h2 => ?_
    have := hno i (by omega)
    rw [List.getD_eq_getElem?_getD, List.getElem?_eq_getElem h1, List.getD_eq_getElem?_getD, List.getElem?_eq_getElem h2] at this
    exact this
  have f2 : ((j : Int) < a.length) = True := eq_true (by omega)
  have f3 : (j < a.length) = True := eq_true hj2
  have f4 : (j < b.length) = True := eq_true (by omega)
  by_cases hv : a.getD j 0 = b.getD j 0
  rotate_left
  · have f5 : (a.getD j 0 = b.getD j 0) = False := eq_false hv
    refine vc_soundN 1000 ?_
    simp only [ints_def, w1, f2, f3, f4, f5, Int.toNat_natCast, ↓wPre, wA, ↓reduceIte, reduceIte, reduceCtorEq, Y1, Y2, Y3, Y4, Y5, Y6, Y7, Y8, Y9, YA, wE]
    refine ret1E (v := .bool false) rfl rfl (settled_bool _) ?_
    rw [hV, decide_eq_false fun e => hv (by rw [e])]
  have f5 : (a.getD j 0 = b.getD j 0) = True := eq_true hv
  refine vc_soundN 1000 ?_
  simp only [ints_def, w1, f2, f3, f4, f5, Int.toNat_natCast, ↓wPre, wA, ↓reduceIte, reduceIte, reduceCtorEq, Y1, Y2, Y3, Y4, Y5, Y6, Y7, Y8, Y9, YA, wE]
  refine next (j + 1) _ ⟨by omega, fun i hi => ?_⟩ (by omega) (sub_mk rfl (by simp [subL, ints_def, I]) (by simp [subT]) rfl)
  by_cases e : i = j
  · rw [e]; exact hv
  · exact hno i (by omega)
theorem within12_fn (n lo hi : Int) : Fn Tryz.prog 91 [I n, I lo, I hi] (.bool (wb n lo hi)) := by
  unfold wb
  refine Fn.intro (fn := Tryz.f91) Tryz.call91 Tryz.func91 rfl mixed 7 [] [] [] (by kernel_rfl) (Nat.le_of_ble_eq_true rfl) (by simp [settled_ints, settled_I, settled_fn0, settled_intss, settled_bool, settled_nil, settled_zA, settled_qA, settled_vA, settled_zR, settled_ofA, settled_int, settled_pts, settled_bools]) (vc_soundN 1000 ?_); simp (config := { maxSteps := 2000000 }) only [AS.start, ↓wPre, wA, ↓reduceIte, reduceIte, reduceCtorEq, Y1, Y2, Y3, Y4, Y5, Y6, Y7, Y8, Y9, YA, wE]
  refine ⟨fun h => ret1E rfl rfl (settled_bool _) (by rw [decide_eq_true h]; rfl), fun h => ret1E rfl rfl (settled_bool _) (by rw [decide_eq_false h]; rfl)⟩
def numF (n : Int) : Rat := Rat.divInt ((aroundF n 100).tmod 25 - 12) (1 + (aroundF n 100).tdiv 25)
theorem number_fn (n : Int) (hn : in64 n) : Fn Tryz.prog 15 [I n] (qA (numF n)) := by
  obtain ⟨k, hk⟩ : ∃ k, k = aroundF n 100 := ⟨_, rfl⟩
  have hb := aroundF_bound n 100 (by omega)
  have c1 := around01_fn n 100 hn (by omega)
  rw [← hk] at hb c1
  have b1 : k.tmod 25 = k % 25 := Int.tmod_eq_emod_of_nonneg hb.1
  have b2 : k.tdiv 25 = k / 25 := Int.tdiv_eq_ediv_of_nonneg hb.1
  have c2 := of04_fn (k.tmod 25 - 12) (1 + k.tdiv 25) ⟨by omega, by omega⟩ ⟨by omega, by omega⟩
  have w1 : IntKind.i64.wrap (k.tmod 25 - 12) = k.tmod 25 - 12 := by rw [IntKind.wrap_i64]; omega
  have w2 : IntKind.i64.wrap (k.tdiv 25) = k.tdiv 25 := by rw [IntKind.wrap_i64]; omega
  have w3 : IntKind.i64.wrap (1 + k.tdiv 25) = 1 + k.tdiv 25 := by rw [IntKind.wrap_i64]; omega
  obtain ⟨R, hR⟩ : ∃ R, R = qA (numF n) := ⟨_, rfl⟩
  have sR : Settled R := hR ▸ settled_qA _
  rw [show Rat.divInt (k.tmod 25 - 12) (1 + k.tdiv 25) = numF n by rw [hk]; rfl, ← hR] at c2
  rw [← hR]
  refine Fn.intro (fn := Tryz.f15) Tryz.call15 Tryz.func15 rfl mixed 4 [] [] [] (by kernel_rfl) (Nat.le_of_ble_eq_true rfl) (by simp [settled_ints, settled_I, settled_fn0, settled_intss, settled_bool, settled_nil, settled_zA, settled_qA, settled_vA, settled_zR, settled_ofA, settled_int, settled_pts, settled_bools]) (vc_soundN 1000 ?_); simp (config := { maxSteps := 2000000 }) only [AS.start, ↓wPre, wA, ↓reduceIte, reduceIte, reduceCtorEq, Y1, Y2, Y3, Y4, Y5, Y6, Y7, Y8, Y9, YA, wE]
  refine call_fn c1 rfl ?_
  simp only [w1, w2, w3, Int.reduceEq, ↓wPre, wA, ↓reduceIte, reduceIte, reduceCtorEq, Y1, Y2, Y3, Y4, Y5, Y6, Y7, Y8, Y9, YA, wE]
  refine call_fn c2 rfl ?_
  simp only [hR, ↓wPre, wA, ↓reduceIte, reduceIte, reduceCtorEq, Y1, Y2, Y3, Y4, Y5, Y6, Y7, Y8, Y9, YA, wE]
  exact retA rfl ldk28 rfl rfl rfl sR (hR.trans rfl)
theorem refrsignR {x : RQ} {q : Rat} (h : x = RQ.of q) (sx : x.sz ≤ 1000000) : Fn Tryz.prog 84 [x.A] (I q.num.sign) := by
  rw [h] at sx ⊢
  have h1 := qb_of_sz q
  exact refrsign_fn q (by unfold rm; omega)
theorem refrcmpR {x y : RQ} {a b : Rat} (hx : x = RQ.of a) (hy : y = RQ.of b) (sx : x.sz ≤ 1000000) (sy : y.sz ≤ 1000000) : Fn Tryz.prog 95 [x.A, y.A] (I (qcmp a b)) := by
  rw [hx] at sx; rw [hy] at sy
  have h1 := qb_of_sz a; have h2 := qb_of_sz b
  rw [hx, hy]; exact refrcmp_fn a b (by unfold rm; omega) (by unfold rm; omega)
theorem refrcmpN {x : RQ} {a : Rat} (hx : x = RQ.of a) (sx : x.sz ≤ 1000000) (b : Rat) (hb : qb b ≤ rm) : Fn Tryz.prog 95 [x.A, qA b] (I (qcmp a b)) := by
  rw [hx] at sx
  have h1 := qb_of_sz a
  rw [hx]; exact refrcmp_fn a b (by unfold rm; omega) hb
def btwQ (x : RQ) (m : Int) : Prop := ∃ q : Rat, x = RQ.of q ∧ 0 ≤ q ∧ q ≤ (m : Rat)
theorem btw_fn (x : RQ) (hx : x.sz ≤ 1000000) (m : Int) (hm : in64 m) : Fn Tryz.prog 94 [x.A, I m] (.bool (decide (btwQ x m))) := by
  obtain ⟨V, hV⟩ : ∃ V, V = decide (btwQ x m) := ⟨_, rfl⟩
  have fin : ∀ {s : AS} {v : Bool}, s.get 4 = .bool v → v = V → RetOk (envP Tryz.prog Tryz.f94 [] [] (.bool V)) s := fun h e => ret1E rfl h (settled_bool _) (by rw [e])
  have c1 := refrvalid_fn x (by omega)
  rw [← hV]
  refine Fn.intro (fn := Tryz.f94) Tryz.call94 Tryz.func94 rfl mixed 5 [] [] [] (by kernel_rfl) (Nat.le_of_ble_eq_true rfl) (by simp [settled_RQ, settled_I]) (vc_soundN 1000 ?_)
  simp only [AS.start, RQ.A, RQ.L, ↓wPre, wA, ↓reduceIte, reduceIte, reduceCtorEq, Y1, Y2, Y3, Y4, Y5, Y6, Y7, Y8, Y9, YA, wE]
  refine call_fn c1 rfl ?_
  by_cases hv : x.ok
  rotate_left
  · rw [decide_eq_false hv]
    simp only [↓wPre, wA, ↓reduceIte, reduceIte, reduceCtorEq, Y1, Y2, Y3, Y4, Y5, Y6, Y7, Y8, Y9, YA, wE]
    exact fin rfl (by rw [hV, decide_eq_false]; rintro ⟨q, hq, _⟩; exact hv ⟨q, hq⟩)
  rw [decide_eq_true hv]
  obtain ⟨q, hq⟩ := hv
  have hV' : V = decide (0 ≤ q ∧ q ≤ (m : Rat)) := by
    rw [hV, decide_eq_decide]
    constructor
    · rintro ⟨q', h1, h2⟩
      have := RQ.of_inj (h1.symm.trans hq); subst this
      exact h2
    · exact fun h => ⟨q, hq, h⟩
  have c2 := refrsignR hq hx
  have c3 := of04_fn m 1 hm ⟨by omega, by omega⟩
  rw [divInt_one] at c3
  have c4 := refrcmpN hq hx (m : Rat) (by have := qb_int m 3 (by omega) (bl_i64 hm); unfold rm; omega)
  simp only [↓wPre, wA, ↓reduceIte, reduceIte, reduceCtorEq, Y1, Y2, Y3, Y4, Y5, Y6, Y7, Y8, Y9, YA, wE]
  refine call_fn c2 rfl ?_
  by_cases h0 : 0 ≤ q.num.sign
  rotate_left
  · have f1 : (0 ≤ q.num.sign) = False := eq_false h0
    simp only [f1, ↓wPre, wA, ↓reduceIte, reduceIte, reduceCtorEq, Y1, Y2, Y3, Y4, Y5, Y6, Y7, Y8, Y9, YA, wE]
    exact fin rfl (by rw [hV', decide_eq_false]; rintro ⟨h, _⟩; exact Rat.not_lt.2 h ((sign_lt _).1 (by omega)))
  have f1 : (0 ≤ q.num.sign) = True := eq_true h0
  simp only [f1, ↓wPre, wA, ↓reduceIte, reduceIte, reduceCtorEq, Y1, Y2, Y3, Y4, Y5, Y6, Y7, Y8, Y9, YA, wE]
  refine call_fn c3 rfl ?_
  simp only [f1, ↓wPre, wA, ↓reduceIte, reduceIte, reduceCtorEq, Y1, Y2, Y3, Y4, Y5, Y6, Y7, Y8, Y9, YA, wE]
  refine call_fn c4 rfl ?_
  simp only [f1, ↓wPre, wA, ↓reduceIte, reduceIte, reduceCtorEq, Y1, Y2, Y3, Y4, Y5, Y6, Y7, Y8, Y9, YA, wE]
  refine fin rfl ?_
  rw [hV', decide_eq_decide]
  rw [qcmp_le]
  exact ⟨fun h => ⟨by rw [← Rat.not_lt, ← sign_lt]; omega, h⟩, fun h => h.2⟩
end
end Go.Ab.N
namespace Go.Ab.N
open Go Go.RowKit Go.Proofs
noncomputable section
set_option maxRecDepth 10000
set_option maxHeartbeats 4000000
open Classical

/-! ### Reference 12: Rim, Valid -/
theorem rim12_fn (p : PV) (hl : p.rim.length < 1000000) (hr : ∀ i, i < p.rim.length → ptOk (p.rim.getD i (0, 0)) = true) : Fn Tryz.prog 93 [pvA p] (vecs (rimV p.rim)) := by
  obtain ⟨R, hR⟩ : ∃ R, R = vecs (rimV p.rim) := ⟨_, rfl⟩
  have sR : Settled R := hR ▸ settled_vecs _
  have bo : belO 2 (.con 0 25 (ofL (pvC p))) = True := eq_true (fun j _ => bel_of_settled (settled_cells (settled_pvC p) j))
  have hvc : ∀ a : V2, ∀ x ∈ vC a, Settled x := fun a => by simp [vC, settled_ints, settled_bool]
  have br : ∀ i l n, belO 2 (.row i n (slFs vC 8 v0 l)) = True := fun i l n => eq_true fun j _ => bel_of_settled (settled_cells (hvc _) _)
  rw [← hR]
  refine Fn.intro (fn := Tryz.f93) Tryz.call93 Tryz.func93 rfl mixed 5 [] [5, 60000001] [] (by kernel_rfl) (Nat.le_of_ble_eq_true rfl) (by simp [settled_pvA]) (vc_soundN 1000 ?_)
  simp only [AS.start, pvA, pvC, ↓wPre, wA, ↓reduceIte, reduceIte, reduceCtorEq, Y1, Y2, Y3, Y4, Y5, Y6, Y7, Y8, Y9, YA, wE]
  refine run_loop (fun i : Nat => ⟨5, [], [.any, .ref 0 0 0, .any, .osl 1 i 8 0 i, I i], [], [.con 0 25 (ofL (pvC p)), .row i (i * 8) (slFs vC 8 v0 (rimV (p.rim.take i)))]⟩) (fun i => i ≤ p.rim.length) (fun i => p.rim.length - i) 0 (by omega)
    (Sub.trans (sub_con 0 rfl) (Sub.trans (sub_adopt 3 8 (slFs vC 8 v0 []) rfl) (sub_mk rfl (by simp [AS.put, subL, I]) (by simp [AS.put, subT]) (by simp [AS.put, pvC, pts_def, bools_def, ints_def, I, rimV])))) ?_
  intro i hi next
  have w1 := wj i (by omega)
  by_cases hi2 : i < p.rim.length
  · have f1 : ((i : Int) < p.rim.length) = True := eq_true (by omega)
    have f2 : (i < p.rim.length) = True := eq_true hi2
    have f3 : (i * 2 + 2 ≤ p.rim.length * 2) = True := eq_true (by omega)
    have f4 : (i * 2 + 1 ≤ p.rim.length * 2) = True := eq_true (by omega)
    have f5 : (i * 2 < p.rim.length * 2) = True := eq_true (by omega)
    have f6 : (i * 2 + 1 < p.rim.length * 2) = True := eq_true (by omega)
    have v1 := ptF p.rim i
    have hok := hr i hi2
    unfold ptOk wb at hok
    simp only [Bool.and_eq_true, decide_eq_true_eq] at hok
    have c1 := refpof_fn (p.rim.getD i (0, 0)).1 (p.rim.getD i (0, 0)).2 ⟨by omega, by omega⟩ ⟨by omega, by omega⟩
    refine vc_soundN 1000 ?_
    simp only [pvC, w1, f1, f2, f3, f4, f5, f6, v1, Int.toNat_natCast, ↓wPre, wA, ↓reduceIte, reduceIte, reduceCtorEq, Y1, Y2, Y3, Y4, Y5, Y6, Y7, Y8, Y9, YA, wE]
    refine call_fn c1 rfl ?_
    simp only [w1, ↓wPre, wA, ↓reduceIte, reduceIte, reduceCtorEq, Y1, Y2, Y3, Y4, Y5, Y6, Y7, Y8, Y9, YA, wE]
    have hap := appFs_one vC 8 v0 (rimV (p.rim.take i)) (ptV (p.rim.getD i (0, 0))) (by omega)
    have hlen : (rimV (p.rim.take i)).length = i := by simp [rimV]; omega
    have htk : rimV (p.rim.take i) ++ [ptV (p.rim.getD i (0, 0))] = rimV (p.rim.take (i + 1)) := by rw [take_succD _ (0, 0) hi2]; simp [rimV]
    rw [hlen, htk] at hap
    refine ⟨⟨fun j hj => ?_, by omega, by omega⟩, next (i + 1) _ (by omega) (by omega) (sub_cut (m := 2) (Nat.zero_le _) rfl (by simp [subL, I]) (by simp [subT]) (by rw [← hap]; rfl) (by simp [wBel]) (by simp [wBel]) (by simp [bo, br]))⟩
    match j, hj with
    | 0, _ => rfl
    | 1, _ => rfl
    | 2, _ => rfl
    | 3, _ => rfl
    | 4, _ => rfl
    | 5, _ => rfl
    | 6, _ => rfl
    | 7, _ => rfl
    | j + 8, h => omega
  obtain rfl : i = p.rim.length := by omega
  refine vc_soundN 1000 ?_
  simp only [pvC, Int.lt_irrefl, Nat.lt_irrefl, ↓wPre, wA, ↓reduceIte, reduceIte, reduceCtorEq, Y1, Y2, Y3, Y4, Y5, Y6, Y7, Y8, Y9, YA, wE]
  refine ret1 rfl ?_
  have hlen : (rimV p.rim).length = p.rim.length := by simp [rimV]
  rw [hR, vecs_def, hlen]
  refine sees_osl (n := p.rim.length) (.inl rfl) (by omega) (fun h => by rw [h]) fun j hj => ?_
  rw [List.take_length, Nat.zero_add]
  exact (settled_cells (hvc _) _).sees _
/-- The first checks of the ranges. -/
def rngI (p : PV) (i : Nat) : Bool := decide ((wb p.id 0 999 = true ∧ wb p.home 0 4 = true) ∧ ∀ j, j < i → ptOk (p.rim.getD j (0, 0)) = true)
def mrkI (p : PV) (i : Nat) : Bool := decide (rngI p p.rim.length = true ∧ ∀ j, j < i → markOk (p.marks.getD j 0) = true)
theorem all_succ {P : Nat → Prop} {i : Nat} : (∀ j, j < i + 1 → P j) ↔ (∀ j, j < i → P j) ∧ P i :=
  ⟨fun h => ⟨fun j hj => h j (by omega), h i (by omega)⟩, fun h j hj => (Nat.lt_succ_iff_lt_or_eq.1 hj).elim (h.1 j) (fun e => e ▸ h.2)⟩
theorem rngI_succ (p : PV) (i : Nat) : rngI p (i + 1) = (rngI p i && ptOk (p.rim.getD i (0, 0))) := by
  rw [Bool.eq_iff_iff, Bool.and_eq_true]
  unfold rngI
  rw [decide_eq_true_eq, decide_eq_true_eq, all_succ]
  exact and_assoc.symm
theorem mrkI_succ (p : PV) (i : Nat) : mrkI p (i + 1) = (mrkI p i && markOk (p.marks.getD i 0)) := by
  rw [Bool.eq_iff_iff, Bool.and_eq_true]
  unfold mrkI
  rw [decide_eq_true_eq, decide_eq_true_eq, all_succ]
  exact and_assoc.symm
theorem mrkI_all (p : PV) : mrkI p p.marks.length = decide (rangeOk p) := by
  unfold mrkI rngI rangeOk
  rw [decide_eq_decide, decide_eq_true_eq]
  exact ⟨fun h => ⟨h.1.2, h.2, h.1.1.1, h.1.1.2⟩, fun h => ⟨⟨⟨h.2.2.1, h.2.2.2⟩, h.1⟩, h.2.1⟩⟩
theorem merge {α : Type} {X : Env} {K : List Item} {Q : Prop} (P : α → Prop) (st : α → AS) (h1 : (∀ a, P a → Run X K (st a)) → Q) (h2 : ∀ a, P a → Run X K (st a)) : Q := h1 h2
theorem valid12_fn (p : PV) (hs : p.small) : Fn Tryz.prog 25 [pvA p] (I (refErr p)) := by
  obtain ⟨V, hV⟩ : ∃ V, V = refErr p := ⟨_, rfl⟩
  have fin : ∀ {s : AS} {v : Int}, s.get 2 = I v → v = V → RetOk (envP Tryz.prog Tryz.f25 [] [] (I V)) s := fun h e => ret1E rfl h (settled_I _) (by rw [e])
  have k1 := within12_fn p.id 0 999
  have k2 := within12_fn p.home 0 4
  have b1 := hs.rim; have b2 := hs.worn; have b3 := hs.marks
  rw [← hV]
  refine Fn.intro (fn := Tryz.f25) Tryz.call25 Tryz.func25 rfl mixed 6 [] [] [] (by kernel_rfl) (Nat.le_of_ble_eq_true rfl) (by simp [settled_pvA]) (vc_soundN 1000 ?_)
  simp only [AS.start, pvA, pvC, ↓wPre, wA, ↓reduceIte, reduceIte, reduceCtorEq, Y1, Y2, Y3, Y4, Y5, Y6, Y7, Y8, Y9, YA, wE]
  refine call_fn k1 rfl ?_
  apply merge (X := envP Tryz.prog Tryz.f25 [] [] (I V)) (fun B : Bool => B = rngI p 0) (fun B => ⟨6, [], [.any, .ref 0 0 0, I 0, .bool B, I 0, .any], [], [.row 0 25 (ofL (pvC p))]⟩)
  case h1 =>
    intro key
    by_cases h1 : wb p.id 0 999 = true
    · rw [h1]
      simp only [↓wPre, wA, ↓reduceIte, reduceIte, reduceCtorEq, Y1, Y2, Y3, Y4, Y5, Y6, Y7, Y8, Y9, YA, wE]
      refine call_fn k2 rfl ?_
      simp only [↓wPre, wA, ↓reduceIte, reduceIte, reduceCtorEq, Y1, Y2, Y3, Y4, Y5, Y6, Y7, Y8, Y9, YA, wE]
      refine (key (wb p.home 0 4) ?_).sub (sub_mk rfl (by simp [subL, I]) (by simp [subT]) (by simp [pvC, pts_def, bools_def, ints_def, I]))
      unfold rngI
      rw [Bool.eq_iff_iff, decide_eq_true_eq]
      exact ⟨fun h => ⟨⟨h1, h⟩, fun j hj => absurd hj (Nat.not_lt_zero j)⟩, fun h => h.1.2⟩
    · rw [Bool.not_eq_true] at h1
      rw [h1]
      simp only [↓wPre, wA, ↓reduceIte, reduceIte, reduceCtorEq, Y1, Y2, Y3, Y4, Y5, Y6, Y7, Y8, Y9, YA, wE]
      refine (key false ?_).sub (sub_mk rfl (by simp [subL, I]) (by simp [subT]) (by simp [pvC, pts_def, bools_def, ints_def, I]))
      unfold rngI
      rw [decide_eq_false]
      rintro ⟨⟨h, _⟩, _⟩
      rw [h1] at h; cases h
  rintro B rfl
  refine run_loop (fun i : Nat => ⟨6, [], [.any, .ref 0 0 0, I 0, .bool (rngI p i), I i, .any], [], [.row 0 25 (ofL (pvC p))]⟩) (fun i => i ≤ p.rim.length) (fun i => p.rim.length - i) 0 (by omega)
    (sub_mk rfl (by simp [subL, I]) (by simp [subT]) rfl) ?_
  intro i hi next
  have w1 := wj i (by omega)
  by_cases hi2 : i < p.rim.length
  · have f1 : ((i : Int) < p.rim.length) = True := eq_true (by omega)
    have f2 : (i < p.rim.length) = True := eq_true hi2
    have f3 : (i * 2 + 2 ≤ p.rim.length * 2) = True := eq_true (by omega)
    have f4 : (i * 2 + 1 ≤ p.rim.length * 2) = True := eq_true (by omega)
    have f5 : (i * 2 < p.rim.length * 2) = True := eq_true (by omega)
    have f6 : (i * 2 + 1 < p.rim.length * 2) = True := eq_true (by omega)
    have v1 := ptF p.rim i
    have c1 := within12_fn (p.rim.getD i (0, 0)).1 (-65536) 65536
    have c2 := within12_fn (p.rim.getD i (0, 0)).2 (-65536) 65536
    have hsx := rngI_succ p i
    have nx := next (i + 1)
    cases hB : rngI p i with
    | false =>
      rw [hB] at hsx
      simp only [hsx, Bool.false_and] at nx
      refine vc_soundN 1000 ?_
      simp only [pvC, w1, f1, f2, f3, f4, f5, f6, v1, Int.toNat_natCast, ↓wPre, wA, ↓reduceIte, reduceIte, reduceCtorEq, Y1, Y2, Y3, Y4, Y5, Y6, Y7, Y8, Y9, YA, wE]
      exact nx _ (by omega) (by omega) (sub_mk rfl (by simp [subL, I]) (by simp [subT]) (by simp [pvC, pts_def, bools_def, ints_def, I]))
    | true =>
      rw [hB, Bool.true_and] at hsx
      unfold ptOk at hsx
      refine vc_soundN 1000 ?_
      simp only [pvC, w1, f1, f2, f3, f4, f5, f6, v1, Int.toNat_natCast, ↓wPre, wA, ↓reduceIte, reduceIte, reduceCtorEq, Y1, Y2, Y3, Y4, Y5, Y6, Y7, Y8, Y9, YA, wE]
      refine call_fn c1 rfl ?_
      by_cases h1 : wb (p.rim.getD i (0, 0)).1 (-65536) 65536 = true
      rotate_left
      · rw [Bool.not_eq_true] at h1
        rw [h1, Bool.false_and] at hsx
        simp only [hsx] at nx
        rw [h1]
        simp only [w1, ↓wPre, wA, ↓reduceIte, reduceIte, reduceCtorEq, Y1, Y2, Y3, Y4, Y5, Y6, Y7, Y8, Y9, YA, wE]
        exact nx _ (by omega) (by omega) (sub_mk rfl (by simp [subL, I]) (by simp [subT]) (by simp [pvC, pts_def, bools_def, ints_def, I]))
      rw [h1, Bool.true_and] at hsx
      simp only [hsx] at nx
      rw [h1]
      simp only [pvC, w1, f1, f2, f3, f4, f5, f6, v1, Int.toNat_natCast, ↓wPre, wA, ↓reduceIte, reduceIte, reduceCtorEq, Y1, Y2, Y3, Y4, Y5, Y6, Y7, Y8, Y9, YA, wE]
      refine call_fn c2 rfl ?_
      simp only [w1, ↓wPre, wA, ↓reduceIte, reduceIte, reduceCtorEq, Y1, Y2, Y3, Y4, Y5, Y6, Y7, Y8, Y9, YA, wE]
      exact nx _ (by omega) (by omega) (sub_mk rfl (by simp [subL, I]) (by simp [subT]) (by simp [pvC, pts_def, bools_def, ints_def, I]))
  obtain rfl : i = p.rim.length := by omega
  have e0 : mrkI p 0 = rngI p p.rim.length := by
    unfold mrkI
    rw [Bool.eq_iff_iff, decide_eq_true_eq]
    exact ⟨fun h => h.1, fun h => ⟨h, fun j hj => absurd hj (Nat.not_lt_zero j)⟩⟩
  rw [← e0]
  refine vc_soundN 1000 ?_
  simp only [pvC, Int.lt_irrefl, Nat.lt_irrefl, ↓wPre, wA, ↓reduceIte, reduceIte, reduceCtorEq, Y1, Y2, Y3, Y4, Y5, Y6, Y7, Y8, Y9, YA, wE]
  refine run_loop (fun i : Nat => ⟨6, [], [.any, .ref 0 0 0, I 0, .bool (mrkI p i), .any, I i], [], [.row 0 25 (ofL (pvC p))]⟩) (fun i => i ≤ p.marks.length) (fun i => p.marks.length - i) 0 (by omega)
    (sub_mk rfl (by simp [subL, I]) (by simp [subT]) (by simp [pvC, pts_def, bools_def, ints_def, I])) ?_
  intro i hi next
  have w1 := wj i (by omega)
  by_cases hi2 : i < p.marks.length
  · have f1 : ((i : Int) < p.marks.length) = True := eq_true (by omega)
    have f2 : (i < p.marks.length) = True := eq_true hi2
    have c1 := within12_fn (p.marks.getD i 0) 0 1024
    have hsx := mrkI_succ p i
    have nx := next (i + 1)
    cases hB : mrkI p i with
    | false =>
      rw [hB] at hsx
      simp only [hsx, Bool.false_and] at nx
      refine vc_soundN 1000 ?_
      simp only [pvC, ints_def, w1, f1, f2, Int.toNat_natCast, ↓wPre, wA, ↓reduceIte, reduceIte, reduceCtorEq, Y1, Y2, Y3, Y4, Y5, Y6, Y7, Y8, Y9, YA, wE]
      exact nx _ (by omega) (by omega) (sub_mk rfl (by simp [subL, I]) (by simp [subT]) (by simp [pvC, pts_def, bools_def, ints_def, I]))
    | true =>
      rw [hB, Bool.true_and] at hsx
      unfold markOk at hsx
      simp only [hsx] at nx
      refine vc_soundN 1000 ?_
      simp only [pvC, ints_def, w1, f1, f2, Int.toNat_natCast, ↓wPre, wA, ↓reduceIte, reduceIte, reduceCtorEq, Y1, Y2, Y3, Y4, Y5, Y6, Y7, Y8, Y9, YA, wE]
      refine call_fn c1 rfl ?_
      simp only [w1, ↓wPre, wA, ↓reduceIte, reduceIte, reduceCtorEq, Y1, Y2, Y3, Y4, Y5, Y6, Y7, Y8, Y9, YA, wE]
      exact nx _ (by omega) (by omega) (sub_mk rfl (by simp [subL, I]) (by simp [subT]) (by simp [pvC, pts_def, bools_def, ints_def, I]))
  obtain rfl : i = p.marks.length := by omega
  rw [mrkI_all]
  by_cases hro : rangeOk p
  rotate_left
  · rw [decide_eq_false hro]
    refine vc_soundN 1000 ?_
    simp only [pvC, ints_def, Int.lt_irrefl, Nat.lt_irrefl, ↓wPre, wA, ↓reduceIte, reduceIte, reduceCtorEq, Y1, Y2, Y3, Y4, Y5, Y6, Y7, Y8, Y9, YA, wE]
    exact fin rfl (by rw [hV]; unfold refErr; rw [if_neg hro])
  rw [decide_eq_true hro]
  have hV1 : V = if fineR p then 0 else 1 := by rw [hV]; unfold refErr; rw [if_pos hro]
  have bad : ¬ fineR p → (1 : Int) = V := fun h => by rw [hV1, if_neg h]
  have cr := rim12_fn p hs.rim hro.1
  have cp := refpvalid_fn (rimV p.rim) (rimV_small p hro.1) (by simp [rimV]; exact hs.rim)
  have d1 := btw_fn p.tol hs.tol 4 ⟨by omega, by omega⟩
  have d2 := btw_fn p.rough hs.rough 4 ⟨by omega, by omega⟩
  have d3 := btw_fn p.light hs.light 1000 ⟨by omega, by omega⟩
  have d4 := btw_fn p.heavy hs.heavy 1000 ⟨by omega, by omega⟩
  have d5 := refrvalid_fn p.strength (by have := hs.strength; omega)
  refine vc_soundN 1000 ?_
  by_cases g2 : p.worn.length = p.rim.length
  rotate_left
  · have f2 : (p.worn.length = p.rim.length) = False := eq_false g2
    have f2' : ((p.worn.length : Int) = p.rim.length) = False := eq_false (by omega)
    simp only [pvC, Int.lt_irrefl, Nat.lt_irrefl, f2, f2', ↓wPre, wA, ↓reduceIte, reduceIte, reduceCtorEq, Y1, Y2, Y3, Y4, Y5, Y6, Y7, Y8, Y9, YA, wE]
    exact fin rfl (bad fun h => g2 h.1.2.1)
  have f2 : (p.worn.length = p.rim.length) = True := eq_true g2
  have f2' : ((p.worn.length : Int) = p.rim.length) = True := eq_true (by omega)
  by_cases g3 : p.marks.length = p.rim.length
  rotate_left
  · have f3 : (p.marks.length = p.rim.length) = False := eq_false g3
    have f3' : ((p.marks.length : Int) = p.rim.length) = False := eq_false (by omega)
    simp only [pvC, Int.lt_irrefl, Nat.lt_irrefl, f2, f2', f3, f3', ↓wPre, wA, ↓reduceIte, reduceIte, reduceCtorEq, Y1, Y2, Y3, Y4, Y5, Y6, Y7, Y8, Y9, YA, wE]
    exact fin rfl (bad fun h => g3 h.1.2.2)
  have f3 : (p.marks.length = p.rim.length) = True := eq_true g3
  have f3' : ((p.marks.length : Int) = p.rim.length) = True := eq_true (by omega)
  by_cases g1 : (12 : Int) < p.rim.length
  · have f1 : ((12 : Int) < p.rim.length) = True := eq_true g1
    have f1' : (12 < p.rim.length) = True := eq_true (by omega)
    simp only [pvC, Int.lt_irrefl, Nat.lt_irrefl, f1, f1', f2, f2', f3, f3', ↓wPre, wA, ↓reduceIte, reduceIte, reduceCtorEq, Y1, Y2, Y3, Y4, Y5, Y6, Y7, Y8, Y9, YA, wE]
    exact fin rfl (bad fun h => by have := h.1.1; omega)
  have f1 : ((12 : Int) < p.rim.length) = False := eq_false g1
  have f1' : (12 < p.rim.length) = False := eq_false (by omega)
  simp only [pvC, Int.lt_irrefl, Nat.lt_irrefl, f1, f1', f2, f2', f3, f3', ↓wPre, wA, ↓reduceIte, reduceIte, reduceCtorEq, Y1, Y2, Y3, Y4, Y5, Y6, Y7, Y8, Y9, YA, wE]
  refine call_fn cr rfl ?_
  simp only [↓wPre, wA, ↓reduceIte, reduceIte, reduceCtorEq, Y1, Y2, Y3, Y4, Y5, Y6, Y7, Y8, Y9, YA, wE]
  refine call_fn cp rfl ?_
  by_cases hpo : refPoly (rimV p.rim)
  rotate_left
  · rw [decide_eq_false hpo]
    simp only [↓wPre, wA, ↓reduceIte, reduceIte, reduceCtorEq, Y1, Y2, Y3, Y4, Y5, Y6, Y7, Y8, Y9, YA, wE]
    exact fin rfl (bad fun hf => hpo hf.2.2)
  rw [decide_eq_true hpo]
  simp only [↓wPre, wA, ↓reduceIte, reduceIte, reduceCtorEq, Y1, Y2, Y3, Y4, Y5, Y6, Y7, Y8, Y9, YA, wE]
  refine call_fn d1 rfl ?_
  by_cases e1 : btwQ p.tol 4
  rotate_left
  · rw [decide_eq_false e1]
    simp only [↓wPre, wA, ↓reduceIte, reduceIte, reduceCtorEq, Y1, Y2, Y3, Y4, Y5, Y6, Y7, Y8, Y9, YA, wE]
    exact fin rfl (bad fun hf => by
      obtain ⟨_, ⟨t, l, h, s, r, ⟨et, el, eh, es, er⟩, ⟨t0, t4, r0, r4⟩, _⟩, _⟩ := hf
      exact e1 ⟨t, et, t0, t4⟩)
  rw [decide_eq_true e1]
  simp only [↓wPre, wA, ↓reduceIte, reduceIte, reduceCtorEq, Y1, Y2, Y3, Y4, Y5, Y6, Y7, Y8, Y9, YA, wE]
  refine call_fn d2 rfl ?_
  by_cases e2 : btwQ p.rough 4
  rotate_left
  · rw [decide_eq_false e2]
    simp only [↓wPre, wA, ↓reduceIte, reduceIte, reduceCtorEq, Y1, Y2, Y3, Y4, Y5, Y6, Y7, Y8, Y9, YA, wE]
    exact fin rfl (bad fun hf => by
      obtain ⟨_, ⟨t, l, h, s, r, ⟨et, el, eh, es, er⟩, ⟨t0, t4, r0, r4⟩, _⟩, _⟩ := hf
      exact e2 ⟨r, er, r0, r4⟩)
  rw [decide_eq_true e2]
  simp only [↓wPre, wA, ↓reduceIte, reduceIte, reduceCtorEq, Y1, Y2, Y3, Y4, Y5, Y6, Y7, Y8, Y9, YA, wE]
  refine call_fn d3 rfl ?_
  by_cases e3 : btwQ p.light 1000
  rotate_left
  · rw [decide_eq_false e3]
    simp only [↓wPre, wA, ↓reduceIte, reduceIte, reduceCtorEq, Y1, Y2, Y3, Y4, Y5, Y6, Y7, Y8, Y9, YA, wE]
    exact fin rfl (bad fun hf => by
      obtain ⟨_, ⟨t, l, h, s, r, ⟨et, el, eh, es, er⟩, _, ⟨l0, lh, h1⟩, _⟩, _⟩ := hf
      exact e3 ⟨l, el, Rat.le_of_lt l0, Rat.le_trans lh h1⟩)
  rw [decide_eq_true e3]
  simp only [↓wPre, wA, ↓reduceIte, reduceIte, reduceCtorEq, Y1, Y2, Y3, Y4, Y5, Y6, Y7, Y8, Y9, YA, wE]
  refine call_fn d4 rfl ?_
  by_cases e4 : btwQ p.heavy 1000
  rotate_left
  · rw [decide_eq_false e4]
    simp only [↓wPre, wA, ↓reduceIte, reduceIte, reduceCtorEq, Y1, Y2, Y3, Y4, Y5, Y6, Y7, Y8, Y9, YA, wE]
    exact fin rfl (bad fun hf => by
      obtain ⟨_, ⟨t, l, h, s, r, ⟨et, el, eh, es, er⟩, _, ⟨l0, lh, h1⟩, _⟩, _⟩ := hf
      exact e4 ⟨h, eh, Rat.le_trans (Rat.le_of_lt l0) lh, h1⟩)
  rw [decide_eq_true e4]
  simp only [↓wPre, wA, ↓reduceIte, reduceIte, reduceCtorEq, Y1, Y2, Y3, Y4, Y5, Y6, Y7, Y8, Y9, YA, wE]
  refine call_fn d5 rfl ?_
  by_cases e5 : p.strength.ok
  rotate_left
  · rw [decide_eq_false e5]
    simp only [↓wPre, wA, ↓reduceIte, reduceIte, reduceCtorEq, Y1, Y2, Y3, Y4, Y5, Y6, Y7, Y8, Y9, YA, wE]
    exact fin rfl (bad fun hf => by
      obtain ⟨_, ⟨t, l, h, s, r, ⟨et, el, eh, es, er⟩, _, _, _⟩, _⟩ := hf
      exact e5 ⟨s, es⟩)
  rw [decide_eq_true e5]
  obtain ⟨t, et, t0, t4⟩ := e1
  obtain ⟨r, er, r0, r4⟩ := e2
  obtain ⟨l, el, l0, l1⟩ := e3
  obtain ⟨h, eh, h0, h1⟩ := e4
  obtain ⟨s, es⟩ := e5
  have who : fineR p → 0 < l ∧ l ≤ h ∧ 0 < s := by
    rintro ⟨_, ⟨t', l', h', s', r', ⟨et', el', eh', es', er'⟩, _, ⟨x1, x2, x3⟩, x4⟩, _⟩
    have y1 := RQ.of_inj (el'.symm.trans el); have y2 := RQ.of_inj (eh'.symm.trans eh); have y3 := RQ.of_inj (es'.symm.trans es)
    subst y1; subst y2; subst y3
    exact ⟨x1, x2, x4⟩
  have m1 := refrsignR el hs.light
  have m2 := refrcmpR el eh hs.light hs.heavy
  have m3 := refrsignR es hs.strength
  simp only [↓wPre, wA, ↓reduceIte, reduceIte, reduceCtorEq, Y1, Y2, Y3, Y4, Y5, Y6, Y7, Y8, Y9, YA, wE]
  refine call_fn m1 rfl ?_
  by_cases q1 : l.num.sign = 0
  · have k1 : (l.num.sign = 0) = True := eq_true q1
    simp only [k1, ↓wPre, wA, ↓reduceIte, reduceIte, reduceCtorEq, Y1, Y2, Y3, Y4, Y5, Y6, Y7, Y8, Y9, YA, wE]
    exact fin rfl (bad fun hf => by
      have := (who hf).1
      rw [(sign_eq _).1 q1] at this
      exact Rat.lt_irrefl this)
  have k1 : (l.num.sign = 0) = False := eq_false q1
  simp only [k1, ↓wPre, wA, ↓reduceIte, reduceIte, reduceCtorEq, Y1, Y2, Y3, Y4, Y5, Y6, Y7, Y8, Y9, YA, wE]
  refine call_fn m2 rfl ?_
  by_cases q2 : 0 < qcmp l h
  · have k2 : (0 < qcmp l h) = True := eq_true q2
    simp only [k1, k2, ↓wPre, wA, ↓reduceIte, reduceIte, reduceCtorEq, Y1, Y2, Y3, Y4, Y5, Y6, Y7, Y8, Y9, YA, wE]
    exact fin rfl (bad fun hf => Rat.not_le.2 ((qcmp_gt _ _).1 q2) (who hf).2.1)
  have k2 : (0 < qcmp l h) = False := eq_false q2
  simp only [k1, k2, ↓wPre, wA, ↓reduceIte, reduceIte, reduceCtorEq, Y1, Y2, Y3, Y4, Y5, Y6, Y7, Y8, Y9, YA, wE]
  refine call_fn m3 rfl ?_
  by_cases q3 : s.num.sign ≤ 0
  · have k3 : (s.num.sign ≤ 0) = True := eq_true q3
    simp only [k1, k2, k3, ↓wPre, wA, ↓reduceIte, reduceIte, reduceCtorEq, Y1, Y2, Y3, Y4, Y5, Y6, Y7, Y8, Y9, YA, wE]
    exact fin rfl (bad fun hf => by
      have := (sign_gt _).2 (who hf).2.2
      omega)
  have k3 : (s.num.sign ≤ 0) = False := eq_false q3
  simp only [k1, k2, k3, ↓wPre, wA, ↓reduceIte, reduceIte, reduceCtorEq, Y1, Y2, Y3, Y4, Y5, Y6, Y7, Y8, Y9, YA, wE]
  refine fin rfl ?_
  rw [hV1, if_pos]
  refine ⟨⟨by omega, g2, g3⟩, ⟨t, l, h, s, r, ⟨et, el, eh, es, er⟩, ⟨t0, t4, r0, r4⟩, ⟨?_, ?_, h1⟩, ?_⟩, hpo⟩
  · rw [← sign_gt]
    have := fun hh => q1 hh
    have h5 : ¬ l.num.sign < 0 := fun hh => Rat.not_lt.2 l0 ((sign_lt _).1 hh)
    omega
  · rw [← Rat.not_lt]
    exact fun hh => q2 ((qcmp_gt _ _).2 hh)
  · rw [← sign_gt]; omega
end
end Go.Ab.N
namespace Go.Ab.N
open Go Go.RowKit Go.Proofs
noncomputable section
set_option maxRecDepth 10000
set_option maxHeartbeats 4000000
open Classical

/-! ### Reference 12: Same; reference 36: Is, Cast, Of -/
theorem same12_fn (a b : PV) (ha : a.small) (hb : b.small) : Fn Tryz.prog 20 [pvA a, pvA b] (.bool (decide (a = b))) := by
  obtain ⟨V, hV⟩ : ∃ V, V = decide (a = b) := ⟨_, rfl⟩
  have fin : ∀ {s : AS} {v : Bool}, s.get 4 = .bool v → v = V → RetOk (envP Tryz.prog Tryz.f20 [] [] (.bool V)) s := fun h e => ret1E rfl h (settled_bool _) (by rw [e])
  have no : ∀ {q : Prop}, (a = b → q) → ¬ q → false = V := fun h hq => by rw [hV, decide_eq_false fun hh => hq (h hh)]
  have b1 := ha.rim; have b2 := hb.rim; have b3 := ha.worn; have b4 := hb.worn; have b5 := ha.marks; have b6 := hb.marks
  rw [← hV]
  refine Fn.intro (fn := Tryz.f20) Tryz.call20 Tryz.func20 rfl mixed 7 [] [] [] (by kernel_rfl) (Nat.le_of_ble_eq_true rfl) (by simp [settled_pvA]) (vc_soundN 1000 ?_)
  by_cases h1 : a.id = b.id
  rotate_left
  · have f1 : (a.id = b.id) = False := eq_false h1
    simp only [AS.start, pvA, pvC, f1, ↓wPre, wA, ↓reduceIte, reduceIte, reduceCtorEq, Y1, Y2, Y3, Y4, Y5, Y6, Y7, Y8, Y9, YA, wE]
    exact fin rfl (no (fun h => by rw [h]) h1)
  have f1 : (a.id = b.id) = True := eq_true h1
  by_cases h2 : a.home = b.home
  rotate_left
  · have f2 : (a.home = b.home) = False := eq_false h2
    simp only [AS.start, pvA, pvC, f1, f2, ↓wPre, wA, ↓reduceIte, reduceIte, reduceCtorEq, Y1, Y2, Y3, Y4, Y5, Y6, Y7, Y8, Y9, YA, wE]
    exact fin rfl (no (fun h => by rw [h]) h2)
  have f2 : (a.home = b.home) = True := eq_true h2
  by_cases h3 : a.rim.length = b.rim.length
  rotate_left
  · have f3 : (a.rim.length = b.rim.length) = False := eq_false h3
    have f3' : ((a.rim.length : Int) = b.rim.length) = False := eq_false (by omega)
    simp only [AS.start, pvA, pvC, pts_def, f1, f2, f3, f3', ↓wPre, wA, ↓reduceIte, reduceIte, reduceCtorEq, Y1, Y2, Y3, Y4, Y5, Y6, Y7, Y8, Y9, YA, wE]
    exact fin rfl (no (fun h => by rw [h]) h3)
  have f3 : (a.rim.length = b.rim.length) = True := eq_true h3
  have f3' : ((a.rim.length : Int) = b.rim.length) = True := eq_true (by omega)
  by_cases h4 : a.worn.length = b.worn.length
  rotate_left
  · have f4 : (a.worn.length = b.worn.length) = False := eq_false h4
    have f4' : ((a.worn.length : Int) = b.worn.length) = False := eq_false (by omega)
    simp only [AS.start, pvA, pvC, pts_def, bools_def, f1, f2, f3, f3', f4, f4', ↓wPre, wA, ↓reduceIte, reduceIte, reduceCtorEq, Y1, Y2, Y3, Y4, Y5, Y6, Y7, Y8, Y9, YA, wE]
    exact fin rfl (no (fun h => by rw [h]) h4)
  have f4 : (a.worn.length = b.worn.length) = True := eq_true h4
  have f4' : ((a.worn.length : Int) = b.worn.length) = True := eq_true (by omega)
  simp only [AS.start, pvA, pvC, pts_def, bools_def, f1, f2, f3, f3', f4, f4', ↓wPre, wA, ↓reduceIte, reduceIte, reduceCtorEq, Y1, Y2, Y3, Y4, Y5, Y6, Y7, Y8, Y9, YA, wE]
  refine call_fn (same01_fn a.marks b.marks (by omega)) rfl ?_
  by_cases h5 : a.marks = b.marks
  rotate_left
  · rw [decide_eq_false h5]
    simp only [↓wPre, wA, ↓reduceIte, reduceIte, reduceCtorEq, Y1, Y2, Y3, Y4, Y5, Y6, Y7, Y8, Y9, YA, wE]
    exact fin rfl (no (fun h => by rw [h]) h5)
  rw [decide_eq_true h5]
  simp only [↓wPre, wA, ↓reduceIte, reduceIte, reduceCtorEq, Y1, Y2, Y3, Y4, Y5, Y6, Y7, Y8, Y9, YA, wE]
  refine run_loop (fun i : Nat => ⟨7, [], [.any, .any, .ref 0 0 0, .ref 1 0 0, .bool false, I i, .any], [], [.row 0 25 (ofL (pvC a)), .row 0 25 (ofL (pvC b))]⟩) (fun i => i ≤ a.rim.length ∧ ∀ j, j < i → a.rim.getD j (0, 0) = b.rim.getD j (0, 0)) (fun i => a.rim.length - i) 0 ⟨by omega, by omega⟩
    (sub_mk rfl (by simp [subL, I]) (by simp [subT]) (by simp [pvC, pts_def, bools_def, ints_def, I])) ?_
  rintro i ⟨hi, hrim⟩ next
  have w1 := wj i (by omega)
  by_cases hi2 : i < a.rim.length
  · have g1 : ((i : Int) < a.rim.length) = True := eq_true (by omega)
    have g2 : (i < a.rim.length) = True := eq_true hi2
    have g3 : (i < b.rim.length) = True := eq_true (by omega)
    have g4 : (i * 2 + 2 ≤ a.rim.length * 2) = True := eq_true (by omega)
    have g5 : (i * 2 + 2 ≤ b.rim.length * 2) = True := eq_true (by omega)
    have g6 : (i * 2 + 1 ≤ a.rim.length * 2) = True := eq_true (by omega)
    have g7 : (i * 2 + 1 ≤ b.rim.length * 2) = True := eq_true (by omega)
    have g8 : (i * 2 < a.rim.length * 2) = True := eq_true (by omega)
    have g9 : (i * 2 < b.rim.length * 2) = True := eq_true (by omega)
    have ga : (i * 2 + 1 < a.rim.length * 2) = True := eq_true (by omega)
    have gb : (i * 2 + 1 < b.rim.length * 2) = True := eq_true (by omega)
    have v1 := ptF a.rim i
    have v2 := ptF b.rim i
    by_cases hx : (a.rim.getD i (0, 0)).1 = (b.rim.getD i (0, 0)).1
    rotate_left
    · have q1 : ((a.rim.getD i (0, 0)).1 = (b.rim.getD i (0, 0)).1) = False := eq_false hx
      refine vc_soundN 1000 ?_
      simp only [pvC, pts_def, w1, g1, g2, g3, g4, g5, g6, g7, g8, g9, ga, gb, v1, v2, q1, Int.toNat_natCast, ↓wPre, wA, ↓reduceIte, reduceIte, reduceCtorEq, Y1, Y2, Y3, Y4, Y5, Y6, Y7, Y8, Y9, YA, wE]
      exact fin rfl (no (fun h => by rw [h]) hx)
    have q1 : ((a.rim.getD i (0, 0)).1 = (b.rim.getD i (0, 0)).1) = True := eq_true hx
    by_cases hy : (a.rim.getD i (0, 0)).2 = (b.rim.getD i (0, 0)).2
    rotate_left
    · have q2 : ((a.rim.getD i (0, 0)).2 = (b.rim.getD i (0, 0)).2) = False := eq_false hy
      refine vc_soundN 1000 ?_
      simp only [pvC, pts_def, w1, g1, g2, g3, g4, g5, g6, g7, g8, g9, ga, gb, v1, v2, q1, q2, Int.toNat_natCast, ↓wPre, wA, ↓reduceIte, reduceIte, reduceCtorEq, Y1, Y2, Y3, Y4, Y5, Y6, Y7, Y8, Y9, YA, wE]
      exact fin rfl (no (fun h => by rw [h]) hy)
    have q2 : ((a.rim.getD i (0, 0)).2 = (b.rim.getD i (0, 0)).2) = True := eq_true hy
    refine vc_soundN 1000 ?_
    simp only [pvC, pts_def, w1, g1, g2, g3, g4, g5, g6, g7, g8, g9, ga, gb, v1, v2, q1, q2, Int.toNat_natCast, ↓wPre, wA, ↓reduceIte, reduceIte, reduceCtorEq, Y1, Y2, Y3, Y4, Y5, Y6, Y7, Y8, Y9, YA, wE]
    refine next (i + 1) _ ⟨by omega, all_succ.2 ⟨hrim, Prod.ext hx hy⟩⟩ (by omega) (sub_mk rfl (by simp [subL, I]) (by simp [subT]) (by simp [pvC, pts_def, bools_def, ints_def, I]))
  obtain rfl : i = a.rim.length := by omega
  have er : a.rim = b.rim := List.ext_getElem h3 fun i h1 h2 => by
    have := hrim i h1
    rwa [List.getD_eq_getElem?_getD, List.getElem?_eq_getElem h1, List.getD_eq_getElem?_getD, List.getElem?_eq_getElem h2] at this
  refine vc_soundN 1000 ?_
  simp only [pvC, pts_def, Int.lt_irrefl, Nat.lt_irrefl, ↓wPre, wA, ↓reduceIte, reduceIte, reduceCtorEq, Y1, Y2, Y3, Y4, Y5, Y6, Y7, Y8, Y9, YA, wE]
  refine run_loop (fun i : Nat => ⟨7, [], [.any, .any, .ref 0 0 0, .ref 1 0 0, .bool false, .any, I i], [], [.row 0 25 (ofL (pvC a)), .row 0 25 (ofL (pvC b))]⟩) (fun i => i ≤ a.worn.length ∧ ∀ j, j < i → a.worn.getD j false = b.worn.getD j false) (fun i => a.worn.length - i) 0 ⟨by omega, by omega⟩
    (sub_mk rfl (by simp [subL, I]) (by simp [subT]) (by simp [pvC, pts_def, bools_def, ints_def, I])) ?_
  rintro i ⟨hi, hw⟩ next
  have w1 := wj i (by omega)
  by_cases hi2 : i < a.worn.length
  · have g1 : ((i : Int) < a.worn.length) = True := eq_true (by omega)
    have g2 : (i < a.worn.length) = True := eq_true hi2
    have g3 : (i < b.worn.length) = True := eq_true (by omega)
    by_cases hx : a.worn.getD i false = b.worn.getD i false
    rotate_left
    · have q1 : (a.worn.getD i false = b.worn.getD i false) = False := eq_false hx
      have q2 : (a.worn.getD i false != b.worn.getD i false) = true := bne_iff_ne.2 hx
      have q3 : (a.worn.getD i false == b.worn.getD i false) = false := beq_eq_false_iff_ne.2 hx
      refine vc_soundN 1000 ?_
      simp only [pvC, bools_def, w1, g1, g2, g3, q1, q2, q3, Int.toNat_natCast, ↓wPre, wA, ↓reduceIte, reduceIte, reduceCtorEq, Y1, Y2, Y3, Y4, Y5, Y6, Y7, Y8, Y9, YA, wE]
      exact fin rfl (no (fun h => by rw [h]) hx)
    have q1 : (a.worn.getD i false = b.worn.getD i false) = True := eq_true hx
    have q2 : (a.worn.getD i false != b.worn.getD i false) = false := by rw [hx]; simp
    have q3 : (a.worn.getD i false == b.worn.getD i false) = true := by rw [hx]; simp
    refine vc_soundN 1000 ?_
    simp only [pvC, bools_def, w1, g1, g2, g3, q1, q2, q3, Int.toNat_natCast, ↓wPre, wA, ↓reduceIte, reduceIte, reduceCtorEq, Y1, Y2, Y3, Y4, Y5, Y6, Y7, Y8, Y9, YA, wE]
    exact next (i + 1) _ ⟨by omega, all_succ.2 ⟨hw, hx⟩⟩ (by omega) (sub_mk rfl (by simp [subL, I]) (by simp [subT]) (by simp [pvC, pts_def, bools_def, ints_def, I]))
  obtain rfl : i = a.worn.length := by omega
  have ew : a.worn = b.worn := List.ext_getElem h4 fun i h1 h2 => by
    have := hw i h1
    rwa [List.getD_eq_getElem?_getD, List.getElem?_eq_getElem h1, List.getD_eq_getElem?_getD, List.getElem?_eq_getElem h2] at this
  have c1 := same04_fn a.tol b.tol (by have := ha.tol; omega) (by have := hb.tol; omega)
  have c2 := same04_fn a.light b.light (by have := ha.light; omega) (by have := hb.light; omega)
  have c3 := same04_fn a.heavy b.heavy (by have := ha.heavy; omega) (by have := hb.heavy; omega)
  have c4 := same04_fn a.strength b.strength (by have := ha.strength; omega) (by have := hb.strength; omega)
  have c5 := same04_fn a.rough b.rough (by have := ha.rough; omega) (by have := hb.rough; omega)
  refine vc_soundN 1000 ?_
  simp only [pvC, bools_def, Int.lt_irrefl, Nat.lt_irrefl, ↓wPre, wA, ↓reduceIte, reduceIte, reduceCtorEq, Y1, Y2, Y3, Y4, Y5, Y6, Y7, Y8, Y9, YA, wE]
  refine call_fn c1 rfl ?_
  by_cases n1 : a.tol = b.tol
  rotate_left
  · rw [decide_eq_false n1]
    simp only [↓wPre, wA, ↓reduceIte, reduceIte, reduceCtorEq, Y1, Y2, Y3, Y4, Y5, Y6, Y7, Y8, Y9, YA, wE]
    exact fin rfl (no (fun h => by rw [h]) n1)
  rw [decide_eq_true n1]
  simp only [↓wPre, wA, ↓reduceIte, reduceIte, reduceCtorEq, Y1, Y2, Y3, Y4, Y5, Y6, Y7, Y8, Y9, YA, wE]
  refine call_fn c2 rfl ?_
  by_cases n2 : a.light = b.light
  rotate_left
  · rw [decide_eq_false n2]
    simp only [↓wPre, wA, ↓reduceIte, reduceIte, reduceCtorEq, Y1, Y2, Y3, Y4, Y5, Y6, Y7, Y8, Y9, YA, wE]
    exact fin rfl (no (fun h => by rw [h]) n2)
  rw [decide_eq_true n2]
  simp only [↓wPre, wA, ↓reduceIte, reduceIte, reduceCtorEq, Y1, Y2, Y3, Y4, Y5, Y6, Y7, Y8, Y9, YA, wE]
  refine call_fn c3 rfl ?_
  by_cases n3 : a.heavy = b.heavy
  rotate_left
  · rw [decide_eq_false n3]
    simp only [↓wPre, wA, ↓reduceIte, reduceIte, reduceCtorEq, Y1, Y2, Y3, Y4, Y5, Y6, Y7, Y8, Y9, YA, wE]
    exact fin rfl (no (fun h => by rw [h]) n3)
  rw [decide_eq_true n3]
  simp only [↓wPre, wA, ↓reduceIte, reduceIte, reduceCtorEq, Y1, Y2, Y3, Y4, Y5, Y6, Y7, Y8, Y9, YA, wE]
  refine call_fn c4 rfl ?_
  by_cases n4 : a.strength = b.strength
  rotate_left
  · rw [decide_eq_false n4]
    simp only [↓wPre, wA, ↓reduceIte, reduceIte, reduceCtorEq, Y1, Y2, Y3, Y4, Y5, Y6, Y7, Y8, Y9, YA, wE]
    exact fin rfl (no (fun h => by rw [h]) n4)
  rw [decide_eq_true n4]
  simp only [↓wPre, wA, ↓reduceIte, reduceIte, reduceCtorEq, Y1, Y2, Y3, Y4, Y5, Y6, Y7, Y8, Y9, YA, wE]
  refine call_fn c5 rfl ?_
  simp only [↓wPre, wA, ↓reduceIte, reduceIte, reduceCtorEq, Y1, Y2, Y3, Y4, Y5, Y6, Y7, Y8, Y9, YA, wE]
  refine fin rfl ?_
  rw [hV, decide_eq_decide, PV.eq_iff]
  exact ⟨fun h => ⟨⟨n1, n2, n3, n4, h⟩, h1, h2, er, ew, h5⟩, fun h => h.1.2.2.2.2⟩
theorem is36_fn (p c : PV) (hp : p.small) (hc : c.small) {a b : Rat} (ea : p.tol = RQ.of a) (eb : c.tol = RQ.of b) : Fn Tryz.prog 26 [pvA p, pvA c] (.bool (decide (p = likeP p c ∧ a ≤ b))) := by
  have c1 := same12_fn p (likeP p c) hp (likeP_small hp hc)
  have c2 := refrcmpR eb ea hc.tol hp.tol
  obtain ⟨V, hV⟩ : ∃ V, V = decide (p = likeP p c ∧ a ≤ b) := ⟨_, rfl⟩
  have fin : ∀ {s : AS} {v : Bool}, s.get 4 = .bool v → v = V → RetOk (envP Tryz.prog Tryz.f26 [] [] (.bool V)) s := fun h e => ret1E rfl h (settled_bool _) (by rw [e])
  rw [← hV]
  refine Fn.intro (fn := Tryz.f26) Tryz.call26 Tryz.func26 rfl mixed 5 [] [] [] (by kernel_rfl) (Nat.le_of_ble_eq_true rfl) (by simp [settled_pvA]) (vc_soundN 1000 ?_)
  simp only [AS.start, pvA, pvC, ↓wPre, wA, ↓reduceIte, reduceIte, reduceCtorEq, Y1, Y2, Y3, Y4, Y5, Y6, Y7, Y8, Y9, YA, wE]
  refine call_fn c2 rfl ?_
  by_cases h : qcmp b a < 0
  · have f1 : (qcmp b a < 0) = True := eq_true h
    simp only [f1, ↓wPre, wA, ↓reduceIte, reduceIte, reduceCtorEq, Y1, Y2, Y3, Y4, Y5, Y6, Y7, Y8, Y9, YA, wE]
    exact fin rfl (by rw [hV, decide_eq_false fun hh => Rat.not_le.2 ((qcmp_lt _ _).1 h) hh.2])
  have f1 : (qcmp b a < 0) = False := eq_false h
  simp only [f1, ↓wPre, wA, ↓reduceIte, reduceIte, reduceCtorEq, Y1, Y2, Y3, Y4, Y5, Y6, Y7, Y8, Y9, YA, wE]
  refine call_fn c1 rfl ?_
  simp only [↓wPre, wA, ↓reduceIte, reduceIte, reduceCtorEq, Y1, Y2, Y3, Y4, Y5, Y6, Y7, Y8, Y9, YA, wE]
  refine fin rfl ?_
  rw [hV, decide_eq_decide]
  exact ⟨fun hh => ⟨hh, by rw [← Rat.not_lt]; exact fun hl => h ((qcmp_lt _ _).2 hl)⟩, fun hh => hh.1⟩
def castF (p : PV) (a : Rat) (n : Int) : PV := castC p (aroundF n 900) (aroundF n 5) (a + Rat.divInt (aroundF n 6) 4)
theorem cast36_fn (p : PV) (n : Int) (hn : in64 n) {a : Rat} (ea : p.tol = RQ.of a) (ha : qb a ≤ 100000) : Fn Tryz.prog 23 [pvA p, I n] (pvA (castF p a n)) := by
  have c1 := around01_fn n 900 hn (by omega)
  have c2 := around01_fn n 5 hn (by omega)
  have c3 := around01_fn n 6 hn (by omega)
  have hb := aroundF_bound n 6 (by omega)
  have c4 := of04_fn (aroundF n 6) 4 ⟨by omega, by omega⟩ ⟨by omega, by omega⟩
  have hq := qb_divInt (aroundF n 6) 4 3 (by omega) (bl_i64 ⟨by omega, by omega⟩) (bl_i64 ⟨by omega, by omega⟩)
  have c5 := refradd_fn a (Rat.divInt (aroundF n 6) 4) (by unfold rm; omega) (by unfold rm; omega)
  replace c5 : Fn Tryz.prog 76 [p.tol.A, qA (Rat.divInt (aroundF n 6) 4)] (qA (a + Rat.divInt (aroundF n 6) 4)) := by rw [ea]; exact c5
  obtain ⟨R, hR⟩ : ∃ R, R = castF p a n := ⟨_, rfl⟩
  rw [← hR]
  refine Fn.intro (fn := Tryz.f23) Tryz.call23 Tryz.func23 rfl mixed 6 [] [4, 50000002] [] (by kernel_rfl) (Nat.le_of_ble_eq_true rfl) (by simp [settled_pvA, settled_I]) (vc_soundN 1000 ?_)
  simp only [AS.start, pvA, pvC, ↓wPre, wA, ↓reduceIte, reduceIte, reduceCtorEq, Y1, Y2, Y3, Y4, Y5, Y6, Y7, Y8, Y9, YA, wE]
  refine call_fn c1 rfl ?_
  simp only [↓wPre, wA, ↓reduceIte, reduceIte, reduceCtorEq, Y1, Y2, Y3, Y4, Y5, Y6, Y7, Y8, Y9, YA, wE]
  refine call_fn c2 rfl ?_
  simp only [↓wPre, wA, ↓reduceIte, reduceIte, reduceCtorEq, Y1, Y2, Y3, Y4, Y5, Y6, Y7, Y8, Y9, YA, wE]
  refine call_fn c3 rfl ?_
  simp only [↓wPre, wA, ↓reduceIte, reduceIte, reduceCtorEq, Y1, Y2, Y3, Y4, Y5, Y6, Y7, Y8, Y9, YA, wE]
  refine call_fn c4 rfl ?_
  simp only [↓wPre, wA, ↓reduceIte, reduceIte, reduceCtorEq, Y1, Y2, Y3, Y4, Y5, Y6, Y7, Y8, Y9, YA, wE]
  refine call_fn c5 rfl ?_
  simp only [↓wPre, wA, ↓reduceIte, reduceIte, reduceCtorEq, Y1, Y2, Y3, Y4, Y5, Y6, Y7, Y8, Y9, YA, wE]
  subst hR
  exact retV rfl ldk30 rfl rfl rfl (settled_pvA _) rfl
theorem of36_fn (p : PV) (hp : p.small) (id home : Int) (x : RQ) (hx : x.sz ≤ 100000) {a : Rat} (ea : p.tol = RQ.of a) (ha : qb a ≤ 100000) :
    Fn Tryz.prog 19 [pvA p, I id, I home, x.A] (.tup [pvA (refOf p id home a x).1, I (refOf p id home a x).2]) := by
  obtain ⟨R, hR⟩ : ∃ R, R = refOf p id home a x := ⟨_, rfl⟩
  rw [← hR]
  have hbad : (¬ ∃ q : Rat, x = RQ.of q ∧ 0 ≤ q) → R = (zeroP, 1) := fun h => by
    rw [hR]; unfold refOf; rw [dif_neg h]
  have zret : ∀ {s : AS} {ver id' : Nat}, s.get 8 = .ref id' ver 0 → s.h[id']? = some (.row ver 25 (ofL zeroL)) → s.get 9 = I 1 → R = (zeroP, 1) → RetOk (envP Tryz.prog Tryz.f19 [] [] (.tup [pvA R.1, I R.2])) s := fun h1 h2 h3 h4 => by
    subst h4
    exact retRef2 rfl (resAt_ref ldk30 h1 h2 rfl) (by unfold resAt; rfl) (sees_of_weak (settled_pvA _) (weak_agg weak_zero)) (by rw [h3]; exact (settled_I _).sees _)
  have c1 := refrvalid_fn x (by omega)
  refine Fn.intro (fn := Tryz.f19) Tryz.call19 Tryz.func19 rfl mixed 11 [] [] [] (by kernel_rfl) (Nat.le_of_ble_eq_true rfl) (by simp [settled_pvA, settled_RQ, settled_I]) (vc_soundN 1000 ?_)
  simp only [AS.start, pvA, pvC, RQ.A, RQ.L, ↓wPre, wA, ↓reduceIte, reduceIte, reduceCtorEq, Y1, Y2, Y3, Y4, Y5, Y6, Y7, Y8, Y9, YA, wE]
  refine call_fn c1 rfl ?_
  by_cases hv : x.ok
  rotate_left
  · rw [decide_eq_false hv]
    simp only [↓wPre, wA, ↓reduceIte, reduceIte, reduceCtorEq, Y1, Y2, Y3, Y4, Y5, Y6, Y7, Y8, Y9, YA, wE]
    exact zret rfl rfl rfl (hbad fun ⟨q, hq, _⟩ => hv ⟨q, hq⟩)
  obtain ⟨q, hq⟩ := hv
  rw [decide_eq_true ⟨q, hq⟩]
  have c2 := refrsignR hq (by omega)
  simp only [↓wPre, wA, ↓reduceIte, reduceIte, reduceCtorEq, Y1, Y2, Y3, Y4, Y5, Y6, Y7, Y8, Y9, YA, wE]
  refine call_fn c2 rfl ?_
  by_cases hn : q.num.sign < 0
  · have f1 : (q.num.sign < 0) = True := eq_true hn
    simp only [f1, ↓wPre, wA, ↓reduceIte, reduceIte, reduceCtorEq, Y1, Y2, Y3, Y4, Y5, Y6, Y7, Y8, Y9, YA, wE]
    refine zret rfl rfl rfl (hbad fun ⟨q', hq', h'⟩ => ?_)
    have := RQ.of_inj (hq'.symm.trans hq); subst this
    exact Rat.not_lt.2 h' ((sign_lt _).1 hn)
  have f1 : (q.num.sign < 0) = False := eq_false hn
  simp only [f1, ↓wPre, wA, ↓reduceIte, reduceIte, reduceCtorEq, Y1, Y2, Y3, Y4, Y5, Y6, Y7, Y8, Y9, YA, wE]
  have hsq : qb q ≤ 100003 := by
    have := qb_of_sz q
    rw [← hq] at this; omega
  have c3 := refradd_fn a q (by unfold rm; omega) (by unfold rm; omega)
  have c3' : Fn Tryz.prog 76 [p.tol.A, x.A] (qA (a + q)) := by rw [ea, hq]; exact c3
  refine call_fn c3' rfl ?_
  simp only [↓wPre, wA, ↓reduceIte, reduceIte, reduceCtorEq, Y1, Y2, Y3, Y4, Y5, Y6, Y7, Y8, Y9, YA, wE]
  have hRc : R = if refErr (castC p id home (a + q)) = 0 then (castC p id home (a + q), 0) else (zeroP, 1) := by
    rw [hR]
    have hex : ∃ q : Rat, x = RQ.of q ∧ 0 ≤ q := ⟨q, hq, by rw [← Rat.not_lt, ← sign_lt]; exact hn⟩
    unfold refOf
    rw [dif_pos hex]
    have : hex.choose = q := RQ.of_inj (hex.choose_spec.1.symm.trans hq)
    rw [this]
  have hsm : (castC p id home (a + q)).small := ⟨hp.rim, hp.worn, hp.marks, by
    have h1 := RQ.of_sz (a + q)
    have h2 := qb_add a q
    show (RQ.of (a + q)).sz ≤ _
    omega, hp.light, hp.heavy, hp.strength, hp.rough⟩
  refine call_fn (valid12_fn (castC p id home (a + q)) hsm) rfl ?_
  by_cases he : refErr (castC p id home (a + q)) = 0
  rotate_left
  · have f2 : (refErr (castC p id home (a + q)) = 0) = False := eq_false he
    simp only [f2, ↓wPre, wA, ↓reduceIte, reduceIte, reduceCtorEq, Y1, Y2, Y3, Y4, Y5, Y6, Y7, Y8, Y9, YA, wE]
    exact zret rfl rfl rfl (by rw [hRc, if_neg he])
  have f2 : (refErr (castC p id home (a + q)) = 0) = True := eq_true he
  simp only [f2, ↓wPre, wA, ↓reduceIte, reduceIte, reduceCtorEq, Y1, Y2, Y3, Y4, Y5, Y6, Y7, Y8, Y9, YA, wE]
  rw [if_pos he] at hRc
  subst hRc
  exact retRef2 rfl (resAt_ref ldk30 rfl rfl rfl) (by unfold resAt; rfl) (sees_of_weak (settled_pvA _) (weak_agg (weakL_rfl (pvC (castC p id home (a + q)))))) ((settled_I _).sees _)
end
end Go.Ab.N
namespace Go.Ab.N
open Go Go.RowKit Go.Proofs
noncomputable section
set_option maxRecDepth 10000
set_option maxHeartbeats 4000000
open Classical

/-! ### Reference 12: rim -/
def ways : List (Int × Int) := [(4, 0), (3, 3), (0, 4), (-3, 3), (-4, 0), (-3, -3), (0, -4), (3, -3)]
theorem ways_in : ∀ i, i < 8 → ∀ k : Int, k = 1 ∨ k = 2 → (-4 ≤ (ways.getD i (0, 0)).1.tdiv k ∧ (ways.getD i (0, 0)).1.tdiv k ≤ 4) ∧ (-4 ≤ (ways.getD i (0, 0)).2.tdiv k ∧ (ways.getD i (0, 0)).2.tdiv k ≤ 4) := by
  intro i hi k hk
  match i, hi with
  | 0, _ => rcases hk with rfl | rfl <;> decide
  | 1, _ => rcases hk with rfl | rfl <;> decide
  | 2, _ => rcases hk with rfl | rfl <;> decide
  | 3, _ => rcases hk with rfl | rfl <;> decide
  | 4, _ => rcases hk with rfl | rfl <;> decide
  | 5, _ => rcases hk with rfl | rfl <;> decide
  | 6, _ => rcases hk with rfl | rfl <;> decide
  | 7, _ => rcases hk with rfl | rfl <;> decide
  | i + 8, h => omega
def wayX (l : List Int) (i : Nat) : List (Int × Int) := if Ab.atF l i 5 = 1 ∨ Ab.atF l i 5 = 2 then [(4 + (ways.getD i (0, 0)).1.tdiv (Ab.atF l i 5), 4 + (ways.getD i (0, 0)).2.tdiv (Ab.atF l i 5))] else []
def rimN (l : List Int) : Nat → List (Int × Int)
  | 0 => []
  | i + 1 => if (rimN l i).length < 5 then rimN l i ++ wayX l i else rimN l i
theorem wayX_len (l : List Int) (i : Nat) : (wayX l i).length ≤ 1 := by unfold wayX; split <;> simp
theorem rimN_len (l : List Int) : ∀ i, (rimN l i).length ≤ 5
  | 0 => by simp [rimN]
  | i + 1 => by
    have := rimN_len l i
    have := wayX_len l i
    simp only [rimN]
    split
    · rw [List.length_append]; omega
    · omega
theorem rimN_stop (l : List Int) (i : Nat) (h : ¬ (rimN l i).length < 5) : ∀ d, rimN l (i + d) = rimN l i
  | 0 => rfl
  | d + 1 => by
    have ih := rimN_stop l i h d
    show (if (rimN l (i + d)).length < 5 then rimN l (i + d) ++ wayX l (i + d) else rimN l (i + d)) = _
    rw [ih, if_neg h]
theorem rimN_in (l : List Int) : ∀ i, i ≤ 8 → rimIn (rimN l i)
  | 0, _ => fun c hc => by simp [rimN] at hc
  | i + 1, hi => by
    have ih := rimN_in l i (by omega)
    have hw := ways_in i (by omega) (Ab.atF l i 5)
    intro c hc
    simp only [rimN] at hc
    split at hc
    · rcases List.mem_append.1 hc with h | h
      · exact ih c h
      · unfold wayX at h
        split at h
        · rename_i hk
          have := hw hk
          simp only [List.mem_cons, List.not_mem_nil, or_false] at h
          subst h
          simp only
          omega
        · simp at h
    · exact ih c hc
def rimF (l : List Int) : List (Int × Int) := if refPoly (rimV (rimN l 8)) then rimN l 8 else triL (Ab.atF l 0 3) (Ab.atF l 1 4)
theorem rimF_ok (l : List Int) : rimOk (rimF l) := by
  unfold rimF
  split
  · rename_i h
    have h1 := h.1
    have : (rimV (rimN l 8)).length = (rimN l 8).length := by simp [rimV]
    exact ⟨⟨by omega, rimN_len l 8⟩, rimN_in l 8 (Nat.le_refl _), h⟩
  · have a1 := atF_bound l 0 3 (by omega)
    have a2 := atF_bound l 1 4 (by omega)
    exact tri_ok _ _ a1 a2
def rimP (R : List (Int × Int)) : PV := ⟨0, 0, R, [], [], zeroQ, zeroQ, zeroQ, zeroQ, zeroQ⟩
theorem weak_ways {t : Bool} : Weak (.sl 8 16 (ofL [I 4, I 0, I 3, I 3, I 0, I 4, I (-3), I 3, I (-4), I 0, I (-3), I (-3), I 0, I (-4), I 3, I (-3)]) t) (pts ways) := weak_slW rfl (Nat.le_refl _) fun j hj => by
  match j, hj with
  | 0, _ => exact Weak.rfl' _
  | 1, _ => exact Weak.rfl' _
  | 2, _ => exact Weak.rfl' _
  | 3, _ => exact Weak.rfl' _
  | 4, _ => exact Weak.rfl' _
  | 5, _ => exact Weak.rfl' _
  | 6, _ => exact Weak.rfl' _
  | 7, _ => exact Weak.rfl' _
  | 8, _ => exact Weak.rfl' _
  | 9, _ => exact Weak.rfl' _
  | 10, _ => exact Weak.rfl' _
  | 11, _ => exact Weak.rfl' _
  | 12, _ => exact Weak.rfl' _
  | 13, _ => exact Weak.rfl' _
  | 14, _ => exact Weak.rfl' _
  | 15, _ => exact Weak.rfl' _
  | j + 16, h => exact absurd h (by show ¬ j + 16 < 8 * 2; omega)
theorem weak_tri (u v : Int) {t : Bool} : Weak (.sl 3 6 (ofL [I 0, I 0, I (4 + u), I 0, I v, I 3]) t) (pts (triL u v)) := weak_slW rfl (Nat.le_refl _) fun j hj => by
  match j, hj with
  | 0, _ => exact Weak.rfl' _
  | 1, _ => exact Weak.rfl' _
  | 2, _ => exact Weak.rfl' _
  | 3, _ => exact Weak.rfl' _
  | 4, _ => exact Weak.rfl' _
  | 5, _ => exact Weak.rfl' _
  | j + 6, h => exact absurd h (by show ¬ j + 6 < 3 * 2; omega)
theorem rimgen_fn (l : List Int) (hl : all64 l) (hl2 : l.length < 9223372036854775808) : Fn Tryz.prog 75 [ints l] (pts (rimF l)) := by
  obtain ⟨V, hV⟩ : ∃ V, V = rimF l := ⟨_, rfl⟩
  rw [← hV]
  have wl : ways.length = 8 := rfl
  have z8 : ((8 : Nat) : Int) = 8 := rfl
  have z5 : ((5 : Nat) : Int) = 5 := rfl
  refine Fn.intro (fn := Tryz.f75) Tryz.call75 Tryz.func75 rfl mixed 7 [] [8] [] (by kernel_rfl) (Nat.le_of_ble_eq_true rfl) (by simp [settled_ints, settled_I, settled_fn0, settled_intss, settled_bool, settled_nil, settled_zA, settled_qA, settled_vA, settled_zR, settled_ofA, settled_int, settled_pts, settled_bools]) (vc_soundN 1000 ?_); simp (config := { maxSteps := 2000000 }) only [AS.start, ↓wPre, wA, ↓reduceIte, reduceIte, reduceCtorEq, Y1, Y2, Y3, Y4, Y5, Y6, Y7, Y8, Y9, YA, wE]
  refine run_loop (fun i : Nat => ⟨7, [], [ints l, .any, .any, pts ways, .osl 0 (rimN l i).length 2 0 (rimN l i).length, I i, .any], [], [.row (rimN l i).length ((rimN l i).length * 2) (slFs ptC 2 (0, 0) (rimN l i))]⟩) (fun i => i ≤ 8) (fun i => 8 - i) 0 (by omega)
    (Sub.trans (sub_weakIn 3 (pts ways) (by show 3 < 7; omega) (weakIn_of weak_ways)) (Sub.trans (sub_adopt 4 2 (slFs ptC 2 (0, 0) []) rfl) (sub_mk rfl (by simp [AS.put, ints_def, rimN, subL, I]) (by simp [AS.put, subT]) (by simp [AS.put, rimN])))) ?_
  intro i hi next
  have w1 := wj i (by omega)
  have hn5 := rimN_len l i
  obtain ⟨R, hR⟩ : ∃ R, R = rimN l i := ⟨_, rfl⟩
  by_cases h8 : i < 8 ∧ R.length < 5
  · obtain ⟨h8, h5⟩ := h8
    have f1 : ((i : Int) < 8) = True := eq_true (by omega)
    have f2 : (i < 8) = True := eq_true h8
    have f3 : ((R.length : Int) < 5) = True := eq_true (by omega)
    have f4 : (R.length < 5) = True := eq_true h5
    have f5 : (i * 2 + 2 ≤ 16) = True := eq_true (by omega)
    have f6 : (i * 2 < 16) = True := eq_true (by omega)
    have f7 : (i * 2 + 1 < 16) = True := eq_true (by omega)
    have f8 : (i * 2 + 1 ≤ 16) = True := eq_true (by omega)
    have v1 := ptF ways i
    have c1 := at01_fn l i 5 hl (by omega)
    have hb := atF_bound l i 5 (by omega)
    have nx := next (i + 1)
    have hs : rimN l (i + 1) = R ++ wayX l i := by rw [hR]; show (if _ then _ else _) = _; rw [if_pos (by rw [← hR]; exact h5)]
    by_cases hk : Ab.atF l i 5 = 1 ∨ Ab.atF l i 5 = 2
    rotate_left
    · have hx : wayX l i = [] := by unfold wayX; rw [if_neg hk]
      rw [hx, List.append_nil] at hs
      have k1 : (Ab.atF l i 5 = 1) = False := eq_false fun h => hk (.inl h)
      have k2 : (Ab.atF l i 5 = 2) = False := eq_false fun h => hk (.inr h)
      simp only [hs] at nx
      rw [← hR]
      refine vc_soundN 1000 ?_
      simp only [pts_def, z8, z5, w1, f1, f2, f3, f4, f5, f6, f7, f8, v1, show ways.length = 8 from rfl, Int.toNat_natCast, ↓wPre, wA, ↓reduceIte, reduceIte, reduceCtorEq, Y1, Y2, Y3, Y4, Y5, Y6, Y7, Y8, Y9, YA, wE]
      refine call_fn c1 rfl ?_
      simp only [k1, k2, w1, ↓wPre, wA, ↓reduceIte, reduceIte, reduceCtorEq, Y1, Y2, Y3, Y4, Y5, Y6, Y7, Y8, Y9, YA, wE]
      exact nx _ (by omega) (by omega) (sub_mk rfl (by simp [subL, pts_def, ints_def, wl, I]) (by simp [subT]) rfl)
    have hw := ways_in i h8 (Ab.atF l i 5) hk
    have hx : wayX l i = [(4 + (ways.getD i (0, 0)).1.tdiv (Ab.atF l i 5), 4 + (ways.getD i (0, 0)).2.tdiv (Ab.atF l i 5))] := by unfold wayX; rw [if_pos hk]
    rw [hx] at hs
    generalize Ab.atF l i 5 = K at *
    have m1 : IntKind.i64.wrap ((ways.getD i (0, 0)).1.tdiv K) = (ways.getD i (0, 0)).1.tdiv K := by rw [IntKind.wrap_i64]; omega
    have m2 : IntKind.i64.wrap ((ways.getD i (0, 0)).2.tdiv K) = (ways.getD i (0, 0)).2.tdiv K := by rw [IntKind.wrap_i64]; omega
    have m3 : IntKind.i64.wrap (4 + (ways.getD i (0, 0)).1.tdiv K) = 4 + (ways.getD i (0, 0)).1.tdiv K := by rw [IntKind.wrap_i64]; omega
    have m4 : IntKind.i64.wrap (4 + (ways.getD i (0, 0)).2.tdiv K) = 4 + (ways.getD i (0, 0)).2.tdiv K := by rw [IntKind.wrap_i64]; omega
    have hap := appFs_one ptC 2 (0, 0) R (4 + (ways.getD i (0, 0)).1.tdiv K, 4 + (ways.getD i (0, 0)).2.tdiv K) (by omega)
    rw [← hs] at hap
    have hlen : (rimN l (i + 1)).length = R.length + 1 := by rw [hs]; simp
    simp only [hlen] at nx
    have k3 : (K = 0) = False := eq_false (by omega)
    rw [← hR]
    have hk' : (K = 1) = True ∨ ((K = 1) = False ∧ (K = 2) = True) := by
      rcases hk with h | h
      · exact .inl (eq_true h)
      · exact .inr ⟨eq_false (by omega), eq_true h⟩
    have hk'' : ∃ k2 : Prop, k2 ∧ ((K = 1) = True ∨ ((K = 1) = False ∧ (K = 2) = True)) := ⟨True, trivial, hk'⟩
    refine vc_soundN 1000 ?_
    simp only [pts_def, z8, z5, w1, f1, f2, f3, f4, f5, f6, f7, f8, v1, show ways.length = 8 from rfl, Int.toNat_natCast, ↓wPre, wA, ↓reduceIte, reduceIte, reduceCtorEq, Y1, Y2, Y3, Y4, Y5, Y6, Y7, Y8, Y9, YA, wE]
    refine call_fn c1 rfl ?_
    rcases hk' with k1 | ⟨k1, k2⟩
    · simp only [pts_def, z8, z5, k1, k3, m1, m2, m3, m4, w1, f1, f2, f3, f4, f5, f6, f7, f8, v1, show ways.length = 8 from rfl, Int.toNat_natCast, ↓wPre, wA, ↓reduceIte, reduceIte, reduceCtorEq, Y1, Y2, Y3, Y4, Y5, Y6, Y7, Y8, Y9, YA, wE]
      refine ⟨by omega, ⟨by omega, by omega⟩, ⟨fun j hj => ?_, by omega, by omega⟩, nx _ (by omega) (by omega) (sub_mk rfl (by simp [subL, pts_def, ints_def, wl, I]) (by simp [subT]) (by rw [← hap]; rfl))⟩
      match j, hj with
      | 0, _ => rfl
      | 1, _ => rfl
      | j + 2, h => omega
    · simp only [pts_def, z8, z5, k1, k2, k3, m1, m2, m3, m4, w1, f1, f2, f3, f4, f5, f6, f7, f8, v1, show ways.length = 8 from rfl, Int.toNat_natCast, ↓wPre, wA, ↓reduceIte, reduceIte, reduceCtorEq, Y1, Y2, Y3, Y4, Y5, Y6, Y7, Y8, Y9, YA, wE]
      refine ⟨by omega, ⟨by omega, by omega⟩, ⟨fun j hj => ?_, by omega, by omega⟩, nx _ (by omega) (by omega) (sub_mk rfl (by simp [subL, pts_def, ints_def, wl, I]) (by simp [subT]) (by rw [← hap]; rfl))⟩
      match j, hj with
      | 0, _ => rfl
      | 1, _ => rfl
      | j + 2, h => omega
  have hN : R = rimN l 8 := by
    by_cases h : i < 8
    · have h5 : ¬ (rimN l i).length < 5 := fun hh => h8 ⟨h, by rw [hR]; exact hh⟩
      have := rimN_stop l i h5 (8 - i)
      rw [show i + (8 - i) = 8 by omega] at this
      rw [hR, this]
    · obtain rfl : i = 8 := by omega
      exact hR
  have hin : rimIn R := hN ▸ rimN_in l 8 (Nat.le_refl _)
  have hlt : R.length ≤ 5 := hN ▸ rimN_len l 8
  have hVR : V = if refPoly (rimV R) then R else triL (Ab.atF l 0 3) (Ab.atF l 1 4) := by rw [hV, hN]; rfl
  have cr := rim12_fn (rimP R) (by show R.length < _; omega) (rimIn_pt hin)
  have cp := refpvalid_fn (rimV R) (rimV_small' (rimIn_pt hin)) (by simp [rimV]; omega)
  have c2 := at01_fn l 0 3 hl (by omega)
  have c3 := at01_fn l 1 4 hl (by omega)
  have a1 := atF_bound l 0 3 (by omega)
  have a2 := atF_bound l 1 4 (by omega)
  have w4 : IntKind.i64.wrap (4 + Ab.atF l 0 3) = 4 + Ab.atF l 0 3 := by rw [IntKind.wrap_i64]; omega
  have ex : (((i : Int) < 8) = True ∧ (i < 8) = True ∧ ((R.length : Int) < 5) = False ∧ (R.length < 5) = False) ∨ (((i : Int) < 8) = False ∧ (i < 8) = False ∧ True ∧ True) := by
    by_cases h : i < 8
    · have h5 : ¬ R.length < 5 := fun hh => h8 ⟨h, hh⟩
      exact .inl ⟨eq_true (by omega), eq_true h, eq_false (by omega), eq_false h5⟩
    · exact .inr ⟨eq_false (by omega), eq_false h, trivial, trivial⟩
  rw [← hR]
  refine Run.sub (s' := ⟨7, [], [ints l, .any, .any, pts ways, pts R, I i, .any], [], [.con R.length (R.length * 2) (slFs ptC 2 (0, 0) R)]⟩) ?_ (Sub.trans (sub_con 0 rfl) (Sub.trans (sub_view 4 (M := R.length * 2) rfl rfl (by omega) (fun h => by omega)) (sub_mk rfl (by simp [AS.put, subL, pts_def, I]) (by simp [AS.put, subT]) rfl)))
  have wk : ∀ t : Bool, WeakL [.agg [I 0, I 0, .sl R.length (R.length * 2) (slFs ptC 2 (0, 0) R) false, .sl 0 0 (fun _ => .any) t, .sl 0 0 (fun _ => .any) t, .bool false, .sl 0 0 (fun _ => .any) t, .bool false, .sl 0 0 (fun _ => .any) t, .bool false, .sl 0 0 (fun _ => .any) t, .bool false, .sl 0 0 (fun _ => .any) t,
      .bool false, .sl 0 0 (fun _ => .any) t, .bool false, .sl 0 0 (fun _ => .any) t, .bool false, .sl 0 0 (fun _ => .any) t, .bool false, .sl 0 0 (fun _ => .any) t, .bool false, .sl 0 0 (fun _ => .any) t, .bool false, .sl 0 0 (fun _ => .any) t]] [pvA (rimP R)] := fun t =>
    ⟨weak_agg ⟨Weak.rfl' _, Weak.rfl' _, Weak.rfl' _, weak_em, weak_em, Weak.rfl' _, weak_em, Weak.rfl' _, weak_em, Weak.rfl' _, weak_em, Weak.rfl' _, weak_em, Weak.rfl' _, weak_em, Weak.rfl' _, weak_em, Weak.rfl' _, weak_em, Weak.rfl' _, weak_em, Weak.rfl' _, weak_em, Weak.rfl' _, weak_em, trivial⟩, trivial⟩
  refine vc_soundN 1000 ?_
  rcases ex with ⟨q1, q2, q3, q4⟩ | ⟨q1, q2, q3, q4⟩
  all_goals
    simp only [pts_def, z8, z5, q1, q2, q3, q4, show ways.length = 8 from rfl, ↓wPre, wA, ↓reduceIte, reduceIte, reduceCtorEq, Y1, Y2, Y3, Y4, Y5, Y6, Y7, Y8, Y9, YA, wE]
    refine call_weak cr (wk _) ?_
    simp only [↓wPre, wA, ↓reduceIte, reduceIte, reduceCtorEq, Y1, Y2, Y3, Y4, Y5, Y6, Y7, Y8, Y9, YA, wE]
    refine call_fn cp rfl ?_
    by_cases hp : refPoly (rimV R)
    · rw [decide_eq_true hp]
      simp only [↓wPre, wA, ↓reduceIte, reduceIte, reduceCtorEq, Y1, Y2, Y3, Y4, Y5, Y6, Y7, Y8, Y9, YA, wE]
      rw [if_pos hp] at hVR
      exact ret1E rfl rfl (settled_pts _) (by rw [hVR]; rfl)
    · rw [decide_eq_false hp]
      simp only [↓wPre, wA, ↓reduceIte, reduceIte, reduceCtorEq, Y1, Y2, Y3, Y4, Y5, Y6, Y7, Y8, Y9, YA, wE]
      refine call_fn c2 rfl ?_
      simp only [w4, ↓wPre, wA, ↓reduceIte, reduceIte, reduceCtorEq, Y1, Y2, Y3, Y4, Y5, Y6, Y7, Y8, Y9, YA, wE]
      refine call_fn c3 rfl ?_
      simp only [w4, ↓wPre, wA, ↓reduceIte, reduceIte, reduceCtorEq, Y1, Y2, Y3, Y4, Y5, Y6, Y7, Y8, Y9, YA, wE]
      rw [if_neg hp] at hVR
      exact ret1 rfl (sees_of_weak (settled_pts _) (by rw [hVR]; exact weak_tri _ _))
end
end Go.Ab.N
namespace Go.Ab
open Go Go.RowKit Go.Proofs
/-- An object that is read no more. -/
theorem sub_dead {m : Nat} {s : AS} (id : Nat) {ob : AO} (ho : s.h[id]? = some ob) (hr : ob.info ≠ none) : Sub m s { s with h := s.h.set id .dead } := by
  intro N c a hst
  have hH := hst.heap
  rw [← hH] at ho
  have hlt := (List.getElem?_eq_some_iff.1 ho).1
  have hat : (c.H.set id .dead)[id]? = some .dead := by simp [hlt]
  have hoth : ∀ i, i ≠ id → (c.H.set id AO.dead)[i]? = c.H[i]? := fun i hi => List.getElem?_set_ne (Ne.symm hi)
  let c' : Ctx := ⟨c.w, c.S, c.γ, c.H.set id .dead⟩
  have hext : Ext c c' := by
    refine ⟨?_, fun b h => h, fun b h => .inl h, ?_, fun _ _ _ => rfl, Nat.le_refl _, rfl, rfl, rfl⟩
    · intro i o hoi
      by_cases hi : i = id
      · subst hi
        rw [ho] at hoi; cases hoi
        cases ob with
        | unborn => trivial
        | dead => exact absurd rfl hr
        | row v _ _ => exact .inl hat
        | con v _ _ => exact .inl hat
        | map k g => exact absurd rfl hr
      · have h1 := HLe.refl c i o hoi
        have e1 := hoth i hi
        cases o with
        | unborn => trivial
        | dead => simpa [c', e1] using h1
        | row v _ _ => simpa [c', e1, inf] using h1
        | con v _ _ => simpa [c', e1, inf] using h1
        | map k g => simpa [c', e1] using h1
    · rintro b ⟨i, o, sz, hoi, hown, hg⟩
      by_cases hi : i = id
      · subst hi
        simp only [c'] at hoi
        rw [hat] at hoi; cases hoi; simp [AO.owned] at hown
      · simp only [c'] at hoi
        rw [hoth i hi] at hoi
        exact .inr ⟨i, o, sz, hoi, hown, hg⟩
  have hrep : ∀ {v a}, Rep c v a → Rep c' v a := fun hv => hext.rep hst.hrel hv
  refine ⟨c', rfl, hext.toB m, hst.size, hst.defers, fun i => hrep (hst.slots i), by simp [c', hH], ?_⟩
  have ne : ∀ {i o}, c'.H[i]? = some o → o ≠ AO.dead → i ≠ id := fun h hd e => by
    subst e; simp only [c'] at h; rw [hat] at h; cases h; exact hd rfl
  have bk : ∀ {i o}, c'.H[i]? = some o → o ≠ AO.dead → c.H[i]? = some o := fun h hd => by
    rw [← hoth _ (ne h hd)]; exact h
  refine ⟨?_, ?_, ?_, ?_, ?_⟩
  · intro i v k g hoi
    rcases hst.hrel.row i v k g (bk hoi (by simp)) with h | ⟨b, sz, cs, el, h1, h2, h3, h4, h5, h6⟩
    · exact .inl h
    · exact .inr ⟨b, sz, cs, el, h1, h2, h3, h4, h5, fun j hj => hrep (h6 j hj)⟩
  · intro i v k g hoi
    rcases hst.hrel.con i v k g (bk hoi (by simp)) with h | ⟨b, sz, cs, el, fr, h1, h2, h3, h4, h5, h6⟩
    · exact .inl h
    · exact .inr ⟨b, sz, cs, el, fr, h1, h2, h3, h4, h5, fun j hj => hrep (h6 j hj)⟩
  · intro i k g hoi
    obtain ⟨b, sz, es, cl, h1, h2, h3, h4⟩ := hst.hrel.map i k g (bk hoi (by simp))
    exact ⟨b, sz, es, cl, h1, h2, h3, h4.ext fun v a hv => hrep hv⟩
  · intro i i' o o' b sz sz' hoi hoi' h1 h2 hg hg'
    have d1 : o ≠ AO.dead := fun e => by subst e; simp [AO.owned] at h1
    have d2 : o' ≠ .dead := fun e => by subst e; simp [AO.owned] at h2
    exact hst.hrel.inj _ _ _ _ _ _ _ (bk hoi d1) (bk hoi' d2) h1 h2 hg hg'
  · exact hst.hrel.bound
/-- A contract whose last steps run nothing. -/
theorem HCall.introS {P : Program} {f : FuncId} {fn : Func} {body : Code} (he : Enters P f) (hf : P.funcs[f]? = some fn) (hb : fn.body = some body) (hm : P.follows .mixedOrders = true) {args : List AV} {H H' : List AO} {r' : AV}
    (n0 : Nat) (hid str hcs : List Nat) (hok : okCode fn.ntmps str hcs body = true) (hlen : args.length ≤ fn.ntmps) (r : AV) (H1 : List AO) (hs : Sub H.length ⟨0, [], [], [(0, r)], H1⟩ ⟨0, [], [], [(0, r')], H'⟩)
    (h : Run (envH P fn str hcs H.length r H1) [.code body] (AS.start n0 hid args H)) : HCall P f args H r' H' := by
  refine ⟨he, ?_⟩
  rintro c vs rfl hrc hv
  refine calls_of_run (X := envH P fn str hcs c.H.length r H1) hf hb hm hok rfl hrc hv hlen h (fun p hp => absurd hp (List.not_mem_nil)) ?_
  rintro v r2 ⟨w', S', γ', H''⟩ h1 h2 h3 ⟨rfl, rfl⟩
  have hst : St 1 ⟨w', S', γ', H''⟩ { tmps := #[v], defers := [] } ⟨0, [], [], [(0, r2)], H''⟩ := by
    refine ⟨rfl, rfl, fun i => ?_, rfl, h2⟩
    unfold AS.get
    simp only [Nat.not_lt_zero, if_false, look]
    split
    · rename_i hi; subst hi; exact h1
    · exact .any _
  obtain ⟨c', hw, hx, hst'⟩ := hs _ _ _ hst
  have hv' := hst'.slots 0
  have hH := hst'.heap
  have hrel := hst'.hrel
  obtain ⟨w2, S2, γ2, H2⟩ := c'
  cases hw
  cases hH
  refine ⟨v, S2, γ2, rfl, by simpa [AS.get, look] using hv', hrel, ?_⟩
  exact (h3.trans hx).toExt (Nat.le_refl _)
end Go.Ab
namespace Go.Ab.N
open Go Go.RowKit Go.Proofs
noncomputable section
set_option maxRecDepth 10000
set_option maxHeartbeats 4000000
open Classical

/-! ### Reference 12: Plain, Piece -/
theorem retCellH {P : Program} {fn : Func} {str hcs : List Nat} {b : Nat} {r : AV} {H : List AO} {s : AS} {t u id ver n : Nat} {L : List AV} (hr : fn.results = #[.cell t u]) (hk : ldk P u = some (some n)) (hs : s.get t = .ref id ver 0)
    (ho : s.h[id]? = some (.row ver n (ofL L))) (hn : L.length = n) (e : .agg L = r) (hH : s.h = H) : RetOk (envH P fn str hcs b r H) s :=
  ⟨.agg L, by
    have := resAt_ref hk hs ho hn
    simp [resX, resV, envH, hr, resList, packR, this], e, hH⟩
def q4C (q : Rat) : List AV := [.bool (decide (q.num < 0)), ints (digs q.num.natAbs), .bool false, ints (digs (qd q))]
def plC (id : Int) (n : Nat) (q1 q2 q3 : Rat) : List AV := [I id, I 0, .osl 4 0 2 0 n, .osl 5 0 1 0 n, .osl 6 0 1 0 n, .bool false, .sl 0 0 (fun _ => .any) false, .bool false, .sl 0 0 (fun _ => .any) false,
  .bool (decide (q1.num < 0)), ints (digs q1.num.natAbs), .bool false, ints (digs (qd q1)), .bool (decide (q1.num < 0)), ints (digs q1.num.natAbs), .bool false, ints (digs (qd q1)),
  .bool (decide (q2.num < 0)), ints (digs q2.num.natAbs), .bool false, ints (digs (qd q2)), .bool (decide (q3.num < 0)), ints (digs q3.num.natAbs), .bool false, ints (digs (qd q3))]
theorem plain12_own (id : Int) (R : List (Int × Int)) (hR : R.length < 1000000) (f0 : Nat → AV) : HCall Tryz.prog 73 [I id, pts R] [.row 0 25 f0] (.agg (plC id R.length (Rat.divInt 1 1) (Rat.divInt 100 1) (Rat.divInt 1 2)))
    [.row 0 25 f0, .dead, .dead, .dead, .row 0 (R.length * 2) (slFs ptC 2 (0, 0) R), .row 0 R.length (fun _ => .bool false), .row 0 R.length (fun _ => I 0)] := by
  have o1 := of04_fn 1 1 ⟨by omega, by omega⟩ ⟨by omega, by omega⟩
  have o2 := of04_fn 100 1 ⟨by omega, by omega⟩ ⟨by omega, by omega⟩
  have o3 := of04_fn 1 2 ⟨by omega, by omega⟩ ⟨by omega, by omega⟩
  generalize Rat.divInt 1 1 = q1 at *
  generalize Rat.divInt 100 1 = q2 at *
  generalize Rat.divInt 1 2 = q3 at *
  refine HCall.introS (fn := Tryz.f73) Tryz.call73 Tryz.func73 rfl mixed 7 [] [2, 30000005] [] (by kernel_rfl) (Nat.le_of_ble_eq_true rfl) (.agg (plC id R.length q1 q2 q3))
    [.row 0 25 f0, .row 0 25 (ofL (plC id R.length q1 q2 q3)), .con 0 4 (ofL (q4C q1)), .row 0 25 (ofL (plC id R.length q1 q2 q3)), .row 0 (R.length * 2) (appF 0 (ofL []) (R.length * 2) (slFs ptC 2 (0, 0) R)), .row 0 R.length (fun _ => .bool false), .row 0 R.length (fun _ => I 0)]
    (Sub.trans (sub_dead 1 rfl (by simp [AO.info])) (Sub.trans (sub_dead 2 rfl (by simp [AO.info])) (Sub.trans (sub_dead 3 rfl (by simp [AO.info])) (sub_rowf 4 (R.length * 2) (slFs ptC 2 (0, 0) R) rfl (Nat.le_refl _) fun j hj => by rw [appF_0, if_pos hj])))) (vc_soundN 1000 ?_)
  simp only [AS.start, pts_def, ↓wPre, wA, ↓reduceIte, reduceIte, reduceCtorEq, Y1, Y2, Y3, Y4, Y5, Y6, Y7, Y8, Y9, YA, wE]
  refine call_fn o1 rfl ?_
  simp only [↓wPre, wA, ↓reduceIte, reduceIte, reduceCtorEq, Y1, Y2, Y3, Y4, Y5, Y6, Y7, Y8, Y9, YA, wE]
  refine ⟨⟨fun j _ => slFs_one _ _ _ _ _ (by omega) fun a => ⟨rfl, by simp [ptC, I, AV.one]⟩, by omega, by omega⟩, ?_⟩
  refine call_fn o2 rfl ?_
  simp only [↓wPre, wA, ↓reduceIte, reduceIte, reduceCtorEq, Y1, Y2, Y3, Y4, Y5, Y6, Y7, Y8, Y9, YA, wE]
  refine call_fn o3 rfl ?_
  simp only [↓wPre, wA, ↓reduceIte, reduceIte, reduceCtorEq, Y1, Y2, Y3, Y4, Y5, Y6, Y7, Y8, Y9, YA, wE]
  refine ⟨⟨by omega, by omega⟩, ⟨by omega, by omega⟩, ?_⟩
  exact retCellH rfl ldk30 rfl rfl rfl (by simp [plC, ints_def, I]) (by simp [plC, q4C, ints_def, I])
end
end Go.Ab.N
namespace Go.Ab.N
open Go Go.RowKit Go.Proofs
noncomputable section
set_option maxRecDepth 10000
set_option maxHeartbeats 4000000
open Classical

/-! ### Reference 12: Piece -/
def wornW (l : List Int) (j : Nat) : Bool := decide (Ab.atF l (15 + j) 9 = 8)
def markM (l : List Int) (j : Nat) : Int := (Ab.atF l (20 + j) 5).tdiv 2
def lightQ (l : List Int) : Rat := Rat.divInt (1 + Ab.atF l 11 6) 2
def heavyQ (l : List Int) : Rat := lightQ l + Rat.divInt (Ab.atF l 12 4) 2
def tolQ (l : List Int) : Rat := Rat.divInt (Ab.atF l 10 3) 4
def strQ (l : List Int) : Rat := Rat.divInt (20 + Ab.atF l 13 100) 1
def rouQ (l : List Int) : Rat := Rat.divInt (Ab.atF l 14 5) 4
def pieceG (l : List Int) : PV := ⟨Ab.atF l 8 40, Ab.atF l 9 5, rimF l, (List.range (rimF l).length).map (wornW l), (List.range (rimF l).length).map (markM l), RQ.of (tolQ l), RQ.of (lightQ l), RQ.of (heavyQ l), RQ.of (strQ l), RQ.of (rouQ l)⟩
theorem map_at {α : Type} (f : Nat → α) (d : α) (n j : Nat) (h : j < n) : ((List.range n).map f).getD j d = f j := by
  rw [List.getD_eq_getElem?_getD, List.getElem?_map, List.getElem?_range h]; rfl
def wornRow (l : List Int) (i : Nat) (j : Nat) : AV := .bool (if j < i then wornW l j else false)
def markRow (l : List Int) (i : Nat) (j : Nat) : AV := .int .i64 (if j < i then markM l j else 0)
theorem wornRow_upd (l : List Int) (i : Nat) : upd (wornRow l i) i (.bool (decide (Ab.atF l (15 + (i : Int)) 9 = 8))) = wornRow l (i + 1) := by
  funext j
  unfold upd wornRow
  by_cases h : j = i
  · subst h; simp [wornW]
  · rw [if_neg h]
    by_cases h2 : j < i
    · rw [if_pos h2, if_pos (by omega)]
    · rw [if_neg h2, if_neg (by omega)]
theorem markRow_upd (l : List Int) (i : Nat) : upd (markRow l i) i (.int .i64 ((Ab.atF l (20 + (i : Int)) 5).tdiv 2)) = markRow l (i + 1) := by
  funext j
  unfold upd markRow
  by_cases h : j = i
  · subst h; simp [markM]
  · rw [if_neg h]
    by_cases h2 : j < i
    · rw [if_pos h2, if_pos (by omega)]
    · rw [if_neg h2, if_neg (by omega)]
def zeroT : List AV := [I 0, I 0, .sl 0 0 (fun _ => .any) true, .sl 0 0 (fun _ => .any) true, .sl 0 0 (fun _ => .any) true, .bool false, .sl 0 0 (fun _ => .any) true, .bool false, .sl 0 0 (fun _ => .any) true, .bool false, .sl 0 0 (fun _ => .any) true, .bool false, .sl 0 0 (fun _ => .any) true,
  .bool false, .sl 0 0 (fun _ => .any) true, .bool false, .sl 0 0 (fun _ => .any) true, .bool false, .sl 0 0 (fun _ => .any) true, .bool false, .sl 0 0 (fun _ => .any) true, .bool false, .sl 0 0 (fun _ => .any) true, .bool false, .sl 0 0 (fun _ => .any) true]
def pgC (id home : Int) (n : Nat) (t l h s r : Rat) : List AV := [I id, I home, .osl 4 0 2 0 n, .osl 5 0 1 0 n, .osl 6 0 1 0 n, .bool (decide (t.num < 0)), ints (digs t.num.natAbs), .bool false, ints (digs (qd t)),
  .bool (decide (l.num < 0)), ints (digs l.num.natAbs), .bool false, ints (digs (qd l)), .bool (decide (h.num < 0)), ints (digs h.num.natAbs), .bool false, ints (digs (qd h)),
  .bool (decide (s.num < 0)), ints (digs s.num.natAbs), .bool false, ints (digs (qd s)), .bool (decide (r.num < 0)), ints (digs r.num.natAbs), .bool false, ints (digs (qd r))]
theorem pieceg_fn (l : List Int) (hl : all64 l) (hl2 : l.length < 9223372036854775808) : Fn Tryz.prog 14 [ints l] (pvA (pieceG l)) := by
  obtain ⟨V, hV⟩ : ∃ V, V = pvA (pieceG l) := ⟨_, rfl⟩
  have sV : Settled V := hV ▸ settled_pvA _
  have hro := (rimF_ok l).1
  have cR := rimgen_fn l hl hl2
  have c8 := at01_fn l 8 40 hl (by omega)
  have c9 := at01_fn l 9 5 hl (by omega)
  have c10 := at01_fn l 10 3 hl (by omega)
  have c11 := at01_fn l 11 6 hl (by omega)
  have c12 := at01_fn l 12 4 hl (by omega)
  have c13 := at01_fn l 13 100 hl (by omega)
  have c14 := at01_fn l 14 5 hl (by omega)
  have b10 := atF_bound l 10 3 (by omega)
  have b11 := atF_bound l 11 6 (by omega)
  have b12 := atF_bound l 12 4 (by omega)
  have b13 := atF_bound l 13 100 (by omega)
  have b14 := atF_bound l 14 5 (by omega)
  have w11 : IntKind.i64.wrap (1 + Ab.atF l 11 6) = 1 + Ab.atF l 11 6 := by rw [IntKind.wrap_i64]; omega
  have w13 : IntKind.i64.wrap (20 + Ab.atF l 13 100) = 20 + Ab.atF l 13 100 := by rw [IntKind.wrap_i64]; omega
  have q10 := of04_fn (Ab.atF l 10 3) 4 ⟨by omega, by omega⟩ ⟨by omega, by omega⟩
  have q11 := of04_fn (1 + Ab.atF l 11 6) 2 ⟨by omega, by omega⟩ ⟨by omega, by omega⟩
  have q12 := of04_fn (Ab.atF l 12 4) 2 ⟨by omega, by omega⟩ ⟨by omega, by omega⟩
  have q13 := of04_fn (20 + Ab.atF l 13 100) 1 ⟨by omega, by omega⟩ ⟨by omega, by omega⟩
  have q14 := of04_fn (Ab.atF l 14 5) 4 ⟨by omega, by omega⟩ ⟨by omega, by omega⟩
  have m11 : qb (Rat.divInt (1 + Ab.atF l 11 6) 2) ≤ 3 := qb_divInt _ _ _ (by omega) (bl_i64 ⟨by omega, by omega⟩) (bl_i64 ⟨by omega, by omega⟩)
  have m12 : qb (Rat.divInt (Ab.atF l 12 4) 2) ≤ 3 := qb_divInt _ _ _ (by omega) (bl_i64 ⟨by omega, by omega⟩) (bl_i64 ⟨by omega, by omega⟩)
  have qh := refradd_fn (Rat.divInt (1 + Ab.atF l 11 6) 2) (Rat.divInt (Ab.atF l 12 4) 2) (by unfold rm; omega) (by unfold rm; omega)
  have cP := plain12_own (Ab.atF l 8 40) (rimF l) (by omega)
  rw [← hV]
  unfold pieceG lightQ heavyQ tolQ strQ rouQ at hV
  unfold lightQ at hV
  generalize Rat.divInt 1 1 = u1 at *
  generalize Rat.divInt 100 1 = u2 at *
  generalize Rat.divInt 1 2 = u3 at *
  generalize (Rat.divInt (1 + Ab.atF l 11 6) 2 + Rat.divInt (Ab.atF l 12 4) 2) = Q12 at *
  generalize Rat.divInt (Ab.atF l 10 3) 4 = Q10 at *
  generalize Rat.divInt (1 + Ab.atF l 11 6) 2 = Q11 at *
  generalize Rat.divInt (20 + Ab.atF l 13 100) 1 = Q13 at *
  generalize Rat.divInt (Ab.atF l 14 5) 4 = Q14 at *
  generalize rimF l = R at *
  refine Fn.intro (fn := Tryz.f14) Tryz.call14 Tryz.func14 rfl mixed 5 [] [5, 6001, 11, 12001, 12, 13001] [] (by kernel_rfl) (Nat.le_of_ble_eq_true rfl) (by simp [settled_ints]) (vc_soundN 1000 ?_)
  simp only [AS.start, ↓wPre, wA, ↓reduceIte, reduceIte, reduceCtorEq, Y1, Y2, Y3, Y4, Y5, Y6, Y7, Y8, Y9, YA, wE]
  refine call_fn c8 rfl ?_
  simp only [↓wPre, wA, ↓reduceIte, reduceIte, reduceCtorEq, Y1, Y2, Y3, Y4, Y5, Y6, Y7, Y8, Y9, YA, wE]
  refine call_fn cR rfl ?_
  simp only [↓wPre, wA, ↓reduceIte, reduceIte, reduceCtorEq, Y1, Y2, Y3, Y4, Y5, Y6, Y7, Y8, Y9, YA, wE]
  refine call_heap rfl (cP _) (conEq_free (by simp) (by simp)) (fun id => by cases id <;> simp) ⟨Weak.rfl' _, Weak.rfl' _, trivial⟩ ?_
  simp only [plC, ↓wPre, wA, ↓reduceIte, reduceIte, reduceCtorEq, Y1, Y2, Y3, Y4, Y5, Y6, Y7, Y8, Y9, YA, wE]
  refine call_fn c9 rfl ?_
  simp only [↓wPre, wA, ↓reduceIte, reduceIte, reduceCtorEq, Y1, Y2, Y3, Y4, Y5, Y6, Y7, Y8, Y9, YA, wE]
  refine call_fn c10 rfl ?_
  simp only [↓wPre, wA, ↓reduceIte, reduceIte, reduceCtorEq, Y1, Y2, Y3, Y4, Y5, Y6, Y7, Y8, Y9, YA, wE]
  refine call_fn q10 rfl ?_
  simp only [↓wPre, wA, ↓reduceIte, reduceIte, reduceCtorEq, Y1, Y2, Y3, Y4, Y5, Y6, Y7, Y8, Y9, YA, wE]
  refine call_fn c11 rfl ?_
  simp only [w11, ↓wPre, wA, ↓reduceIte, reduceIte, reduceCtorEq, Y1, Y2, Y3, Y4, Y5, Y6, Y7, Y8, Y9, YA, wE]
  refine call_fn q11 rfl ?_
  simp only [↓wPre, wA, ↓reduceIte, reduceIte, reduceCtorEq, Y1, Y2, Y3, Y4, Y5, Y6, Y7, Y8, Y9, YA, wE]
  refine call_fn c12 rfl ?_
  simp only [↓wPre, wA, ↓reduceIte, reduceIte, reduceCtorEq, Y1, Y2, Y3, Y4, Y5, Y6, Y7, Y8, Y9, YA, wE]
  refine call_fn q12 rfl ?_
  simp only [↓wPre, wA, ↓reduceIte, reduceIte, reduceCtorEq, Y1, Y2, Y3, Y4, Y5, Y6, Y7, Y8, Y9, YA, wE]
  refine call_fn qh rfl ?_
  simp only [↓wPre, wA, ↓reduceIte, reduceIte, reduceCtorEq, Y1, Y2, Y3, Y4, Y5, Y6, Y7, Y8, Y9, YA, wE]
  refine call_fn c13 rfl ?_
  simp only [w13, ↓wPre, wA, ↓reduceIte, reduceIte, reduceCtorEq, Y1, Y2, Y3, Y4, Y5, Y6, Y7, Y8, Y9, YA, wE]
  refine call_fn q13 rfl ?_
  simp only [↓wPre, wA, ↓reduceIte, reduceIte, reduceCtorEq, Y1, Y2, Y3, Y4, Y5, Y6, Y7, Y8, Y9, YA, wE]
  refine call_fn c14 rfl ?_
  simp only [↓wPre, wA, ↓reduceIte, reduceIte, reduceCtorEq, Y1, Y2, Y3, Y4, Y5, Y6, Y7, Y8, Y9, YA, wE]
  refine call_fn q14 rfl ?_
  simp only [↓wPre, wA, ↓reduceIte, reduceIte, reduceCtorEq, Y1, Y2, Y3, Y4, Y5, Y6, Y7, Y8, Y9, YA, wE]
  refine run_loop (fun i : Nat => ⟨5, [], [ints l, .any, .ref 0 0 0, .ref 7 0 0, I i], [], [.row 0 25 (ofL zeroT), .dead, .dead, .dead, .row 0 (R.length * 2) (slFs ptC 2 (0, 0) R), .row 0 R.length (wornRow l i), .row 0 R.length (markRow l i), .row 0 25 (ofL (pgC (Ab.atF l 8 40) (Ab.atF l 9 5) R.length Q10 Q11 Q12 Q13 Q14))]⟩) (fun i => i ≤ R.length) (fun i => R.length - i) 0 (by omega)
    (Sub.trans (sub_rowf 5 R.length (wornRow l 0) rfl (Nat.le_refl _) (fun j _ => by simp [wornRow])) (Sub.trans (sub_rowf 6 R.length (markRow l 0) rfl (Nat.le_refl _) (fun j _ => by simp [markRow])) (sub_mk rfl (by simp [subL, ints_def, I]) (by simp [subT]) (by simp [zeroT, pgC, ints_def, I])))) ?_
  intro i hi next
  have w1 := wj i (by omega)
  by_cases hi2 : i < R.length
  · have f1 : ((i : Int) < R.length) = True := eq_true (by omega)
    have f2 : (i < R.length) = True := eq_true hi2
    have w15 : IntKind.i64.wrap (15 + (i : Int)) = 15 + (i : Int) := by rw [IntKind.wrap_i64]; omega
    have w20 : IntKind.i64.wrap (20 + (i : Int)) = 20 + (i : Int) := by rw [IntKind.wrap_i64]; omega
    have c15 := at01_fn l (15 + (i : Int)) 9 hl (by omega)
    have c20 := at01_fn l (20 + (i : Int)) 5 hl (by omega)
    have b20 := atF_bound l (20 + (i : Int)) 5 (by omega)
    have e20 : (Ab.atF l (20 + (i : Int)) 5).tdiv 2 = Ab.atF l (20 + (i : Int)) 5 / 2 := Int.tdiv_eq_ediv_of_nonneg b20.1
    have wq : IntKind.i64.wrap ((Ab.atF l (20 + (i : Int)) 5).tdiv 2) = (Ab.atF l (20 + (i : Int)) 5).tdiv 2 := by rw [IntKind.wrap_i64]; omega
    have hU := wornRow_upd l i
    have hM := markRow_upd l i
    refine vc_soundN 1000 ?_
    simp only [pgC, w1, w15, w20, f1, f2, Int.toNat_natCast, ↓wPre, wA, ↓reduceIte, reduceIte, reduceCtorEq, Y1, Y2, Y3, Y4, Y5, Y6, Y7, Y8, Y9, YA, wE]
    refine call_fn c15 rfl ?_
    simp only [pgC, w1, w15, w20, f1, f2, hU, Int.toNat_natCast, ↓wPre, wA, ↓reduceIte, reduceIte, reduceCtorEq, Y1, Y2, Y3, Y4, Y5, Y6, Y7, Y8, Y9, YA, wE]
    refine ⟨by omega, call_fn c20 rfl ?_⟩
    simp only [pgC, w1, w15, w20, f1, f2, wq, hM, Int.toNat_natCast, Int.reduceEq, ↓wPre, wA, ↓reduceIte, reduceIte, reduceCtorEq, Y1, Y2, Y3, Y4, Y5, Y6, Y7, Y8, Y9, YA, wE]
    exact ⟨by omega, next (i + 1) _ (by omega) (by omega) (sub_mk rfl (by simp [subL, ints_def, I]) (by simp [subT]) (by simp [zeroT, pgC, ints_def, I]))⟩
  obtain rfl : i = R.length := by omega
  refine vc_soundN 1000 ?_
  simp only [zeroT, pgC, Int.lt_irrefl, Nat.lt_irrefl, ↓wPre, wA, ↓reduceIte, reduceIte, reduceCtorEq, Y1, Y2, Y3, Y4, Y5, Y6, Y7, Y8, Y9, YA, wE]
  subst hV
  refine retCellS rfl ldk30 rfl rfl rfl ?_
  have h1 : ∀ H : List AO, H[4]? = some (.row 0 (R.length * 2) (slFs ptC 2 (0, 0) R)) → Sees H (.osl 4 0 2 0 R.length) (pts R) := fun H ho => by
    rw [pts_def]
    refine sees_osl (.inl ho) (by omega) (fun h => by rw [h]) fun j hj => ?_
    rw [Nat.zero_add]
    exact (settled_cells (settled_ptC _) _).sees _
  have h2 : ∀ H : List AO, H[5]? = some (.row 0 R.length (wornRow l R.length)) → Sees H (.osl 5 0 1 0 R.length) (bools ((List.range R.length).map (wornW l))) := fun H ho => by
    rw [bools_def, List.length_map, List.length_range]
    refine sees_osl (.inl ho) (by omega) (fun h => by rw [h]) fun j hj => ?_
    rw [Nat.zero_add, slF_at, map_at _ _ _ _ hj]
    unfold wornRow
    rw [if_pos hj]
    exact (settled_bool _).sees _
  have h3 : ∀ H : List AO, H[6]? = some (.row 0 R.length (markRow l R.length)) → Sees H (.osl 6 0 1 0 R.length) (ints ((List.range R.length).map (markM l))) := fun H ho => by
    rw [ints_def, List.length_map, List.length_range]
    refine sees_osl (.inl ho) (by omega) (fun h => by rw [h]) fun j hj => ?_
    rw [Nat.zero_add, slF_at, map_at _ _ _ _ hj]
    unfold markRow
    rw [if_pos hj]
    exact (settled_I _).sees _
  exact sees_agg ⟨(settled_I _).sees _, (settled_I _).sees _, h1 _ rfl, h2 _ rfl, h3 _ rfl, (settled_bool _).sees _, (settled_ints _).sees _, (settled_bool _).sees _, (settled_ints _).sees _, (settled_bool _).sees _, (settled_ints _).sees _, (settled_bool _).sees _, (settled_ints _).sees _, (settled_bool _).sees _, (settled_ints _).sees _, (settled_bool _).sees _, (settled_ints _).sees _, (settled_bool _).sees _, (settled_ints _).sees _, (settled_bool _).sees _, (settled_ints _).sees _, (settled_bool _).sees _, (settled_ints _).sees _, (settled_bool _).sees _, (settled_ints _).sees _, trivial⟩
end
end Go.Ab.N
