/- Contracts of functions of these chapters, for every argument that fits, and what they need. -/
import Derived.Test.YtefjhgcndhepeaaGreatC8
set_option linter.unusedSimpArgs false
set_option linter.unusedVariables false
open Nat renaming reducePow → Y1, reduceLT → Y2, reduceLeDiff → Y3, reduceEqDiff → Y4, reduceAdd → Y5, reduceMul → Y6, reduceSub → Y7, reduceBEq → Y8, reduceDiv → Y9, reduceMod → YA
namespace Go.Ab.N
open Go Go.RowKit Go.Proofs
noncomputable section
set_option maxRecDepth 10000
set_option maxHeartbeats 2000000
open Classical

theorem refradd_fn (a b : Rat) (ha : qb a ≤ rm) (hb : qb b ≤ rm) : Fn Tryz.prog 76 [qA a, qA b] (qA (a + b)) := by
  unfold rm at ha hb
  have a1 := qb_num a; have a2 := qb_den a; have b1 := qb_num b; have b2 := qb_den b
  have m1 := rmulz_fn a.num b.den (by unfold room; omega) (by unfold room; omega)
  have m2 := rmulz_fn b.num a.den (by unfold room; omega) (by unfold room; omega)
  have m3 := rmulz_fn a.den b.den (by unfold room; omega) (by unfold room; omega)
  have n1 := bl_mul a.num b.den
  have n2 := bl_mul b.num a.den
  have n3 := bl_mul a.den b.den
  have n4 := bl_add (a.num * b.den) (b.num * a.den)
  have s1 := raddz_fn (a.num * b.den) (b.num * a.den) (by unfold room; omega) (by unfold room; omega)
  have k := make04_fn (a.num * b.den + b.num * a.den) (a.den * b.den) (by omega) (by omega)
  have e0 : a + b = Rat.divInt (a.num * b.den + b.num * a.den) (a.den * b.den) := by
    rw [Rat.add_def', mkRat_divInt]; push_cast; rfl
  rw [← e0] at k
  have d1 := refden_fn a
  have d2 := refden_fn b
  obtain ⟨R, hR⟩ : ∃ R, R = qA (a + b) := ⟨_, rfl⟩
  have sR : Settled R := hR ▸ settled_qA _
  rw [← hR] at k ⊢
  refine Fn.intro (fn := Tryz.f76) Tryz.call76 Tryz.func76 rfl mixed 7 [] [1, 2, 3, 20000002, 20000003, 30000002, 30000003, 40000002, 40000003, 40000005, 40000006] [] (by kernel_rfl) (Nat.le_of_ble_eq_true rfl) (by simp [settled_ints, settled_I, settled_fn0, settled_intss, settled_bool, settled_nil, settled_zA, settled_qA, settled_vA, settled_zR, settled_ofA, settled_int, settled_pts, settled_bools]) (vc_soundN 1000 ?_); simp (config := { maxSteps := 2000000 }) only [AS.start, ↓wPre, wA, ↓reduceIte, reduceIte, reduceCtorEq, Y1, Y2, Y3, Y4, Y5, Y6, Y7, Y8, Y9, YA, wE]
  refine call_fn d2 rfl ?_
  simp only [↓wPre, wA, ↓reduceIte, reduceIte, reduceCtorEq, Y1, Y2, Y3, Y4, Y5, Y6, Y7, Y8, Y9, YA, wE]
  refine call_fn m1 rfl ?_
  simp only [↓wPre, wA, ↓reduceIte, reduceIte, reduceCtorEq, Y1, Y2, Y3, Y4, Y5, Y6, Y7, Y8, Y9, YA, wE]
  refine call_fn d1 rfl ?_
  simp only [↓wPre, wA, ↓reduceIte, reduceIte, reduceCtorEq, Y1, Y2, Y3, Y4, Y5, Y6, Y7, Y8, Y9, YA, wE]
  refine call_fn m2 rfl ?_
  simp only [↓wPre, wA, ↓reduceIte, reduceIte, reduceCtorEq, Y1, Y2, Y3, Y4, Y5, Y6, Y7, Y8, Y9, YA, wE]
  refine call_fn s1 rfl ?_
  simp only [↓wPre, wA, ↓reduceIte, reduceIte, reduceCtorEq, Y1, Y2, Y3, Y4, Y5, Y6, Y7, Y8, Y9, YA, wE]
  refine call_fn d1 rfl ?_
  simp only [↓wPre, wA, ↓reduceIte, reduceIte, reduceCtorEq, Y1, Y2, Y3, Y4, Y5, Y6, Y7, Y8, Y9, YA, wE]
  refine call_fn d2 rfl ?_
  simp only [↓wPre, wA, ↓reduceIte, reduceIte, reduceCtorEq, Y1, Y2, Y3, Y4, Y5, Y6, Y7, Y8, Y9, YA, wE]
  refine call_fn m3 rfl ?_
  simp only [↓wPre, wA, ↓reduceIte, reduceIte, reduceCtorEq, Y1, Y2, Y3, Y4, Y5, Y6, Y7, Y8, Y9, YA, wE]
  refine call_fn k rfl ?_
  simp only [hR, ↓wPre, wA, ↓reduceIte, reduceIte, reduceCtorEq, Y1, Y2, Y3, Y4, Y5, Y6, Y7, Y8, Y9, YA, wE]
  exact retA rfl ldk28 rfl rfl rfl sR (hR.trans rfl)
theorem refrmul_fn (a b : Rat) (ha : qb a ≤ rm) (hb : qb b ≤ rm) : Fn Tryz.prog 189 [qA a, qA b] (qA (a * b)) := by
  unfold rm at ha hb
  have a1 := qb_num a; have a2 := qb_den a; have b1 := qb_num b; have b2 := qb_den b
  have m1 := rmulz_fn a.num b.num (by unfold room; omega) (by unfold room; omega)
  have m3 := rmulz_fn a.den b.den (by unfold room; omega) (by unfold room; omega)
  have n1 := bl_mul a.num b.num
  have n3 := bl_mul a.den b.den
  have k := make04_fn (a.num * b.num) (a.den * b.den) (by omega) (by omega)
  have e0 : a * b = Rat.divInt (a.num * b.num) (a.den * b.den) := by
    rw [Rat.mul_def', mkRat_divInt]; push_cast; rfl
  rw [← e0] at k
  have d1 := refden_fn a
  have d2 := refden_fn b
  obtain ⟨R, hR⟩ : ∃ R, R = qA (a * b) := ⟨_, rfl⟩
  have sR : Settled R := hR ▸ settled_qA _
  rw [← hR] at k ⊢
  refine Fn.intro (fn := Tryz.f189) Tryz.call189 Tryz.func189 rfl mixed 5 [] [] [] (by kernel_rfl) (Nat.le_of_ble_eq_true rfl) (by simp [settled_ints, settled_I, settled_fn0, settled_intss, settled_bool, settled_nil, settled_zA, settled_qA, settled_vA, settled_zR, settled_ofA, settled_int, settled_pts, settled_bools]) (vc_soundN 1000 ?_); simp (config := { maxSteps := 2000000 }) only [AS.start, ↓wPre, wA, ↓reduceIte, reduceIte, reduceCtorEq, Y1, Y2, Y3, Y4, Y5, Y6, Y7, Y8, Y9, YA, wE]
  refine call_fn m1 rfl ?_
  simp only [↓wPre, wA, ↓reduceIte, reduceIte, reduceCtorEq, Y1, Y2, Y3, Y4, Y5, Y6, Y7, Y8, Y9, YA, wE]
  refine call_fn d1 rfl ?_
  simp only [↓wPre, wA, ↓reduceIte, reduceIte, reduceCtorEq, Y1, Y2, Y3, Y4, Y5, Y6, Y7, Y8, Y9, YA, wE]
  refine call_fn d2 rfl ?_
  simp only [↓wPre, wA, ↓reduceIte, reduceIte, reduceCtorEq, Y1, Y2, Y3, Y4, Y5, Y6, Y7, Y8, Y9, YA, wE]
  refine call_fn m3 rfl ?_
  simp only [↓wPre, wA, ↓reduceIte, reduceIte, reduceCtorEq, Y1, Y2, Y3, Y4, Y5, Y6, Y7, Y8, Y9, YA, wE]
  refine call_fn k rfl ?_
  simp only [hR, ↓wPre, wA, ↓reduceIte, reduceIte, reduceCtorEq, Y1, Y2, Y3, Y4, Y5, Y6, Y7, Y8, Y9, YA, wE]
  exact retA rfl ldk28 rfl rfl rfl sR (hR.trans rfl)
end
end Go.Ab.N
namespace Go.Ab.N
open Go Go.RowKit Go.Proofs
noncomputable section
set_option maxRecDepth 10000
set_option maxHeartbeats 2000000
open Classical

theorem qd_neg (r : Rat) : qd (-r) = qd r := by unfold qd; rw [Rat.neg_den]
theorem refrneg_fn (r : Rat) (h : qb r ≤ rm) : Fn Tryz.prog 103 [qA r] (qA (-r)) := by
  unfold rm at h
  have h1 := qb_num r
  have c := rnegz_fn r.num (by unfold room; omega)
  have e : qA (-r) = .agg [.bool (decide (-r.num < 0)), ints (digs (-r.num).natAbs), .bool false, ints (digs (qd r))] := by
    unfold qA qC
    rw [qd_neg, Rat.neg_num]
  obtain ⟨R, hR⟩ : ∃ R, R = qA (-r) := ⟨_, rfl⟩
  have sR : Settled R := hR ▸ settled_qA _
  rw [← hR]
  refine Fn.intro (fn := Tryz.f103) Tryz.call103 Tryz.func103 rfl mixed 3 [] [] [] (by kernel_rfl) (Nat.le_of_ble_eq_true rfl) (by simp [settled_ints, settled_I, settled_fn0, settled_intss, settled_bool, settled_nil, settled_zA, settled_qA, settled_vA, settled_zR, settled_ofA, settled_int, settled_pts, settled_bools]) (vc_soundN 1000 ?_); simp (config := { maxSteps := 2000000 }) only [AS.start, ↓wPre, wA, ↓reduceIte, reduceIte, reduceCtorEq, Y1, Y2, Y3, Y4, Y5, Y6, Y7, Y8, Y9, YA, wE]
  refine call_fn c rfl ?_
  simp only [↓wPre, wA, ↓reduceIte, reduceIte, reduceCtorEq, Y1, Y2, Y3, Y4, Y5, Y6, Y7, Y8, Y9, YA, wE]
  exact retA rfl ldk28 rfl rfl rfl sR (hR.trans e)
theorem qb_negR (r : Rat) : qb (-r) = qb r := by
  unfold qb bl
  rw [Rat.neg_den, Rat.neg_num, Int.natAbs_neg]
theorem refrsub_fn (a b : Rat) (ha : qb a ≤ rm) (hb : qb b ≤ rm) : Fn Tryz.prog 188 [qA a, qA b] (qA (a - b)) := by
  have c := refrneg_fn b hb
  have k := refradd_fn a (-b) ha (by rw [qb_negR]; exact hb)
  rw [← Rat.sub_eq_add_neg] at k
  obtain ⟨R, hR⟩ : ∃ R, R = qA (a - b) := ⟨_, rfl⟩
  have sR : Settled R := hR ▸ settled_qA _
  rw [← hR] at k ⊢
  refine Fn.intro (fn := Tryz.f188) Tryz.call188 Tryz.func188 rfl mixed 5 [] [] [] (by kernel_rfl) (Nat.le_of_ble_eq_true rfl) (by simp [settled_ints, settled_I, settled_fn0, settled_intss, settled_bool, settled_nil, settled_zA, settled_qA, settled_vA, settled_zR, settled_ofA, settled_int, settled_pts, settled_bools]) (vc_soundN 1000 ?_); simp (config := { maxSteps := 2000000 }) only [AS.start, ↓wPre, wA, ↓reduceIte, reduceIte, reduceCtorEq, Y1, Y2, Y3, Y4, Y5, Y6, Y7, Y8, Y9, YA, wE]
  refine call_fn c rfl ?_
  simp only [↓wPre, wA, ↓reduceIte, reduceIte, reduceCtorEq, Y1, Y2, Y3, Y4, Y5, Y6, Y7, Y8, Y9, YA, wE]
  refine call_fn k rfl ?_
  simp only [hR, ↓wPre, wA, ↓reduceIte, reduceIte, reduceCtorEq, Y1, Y2, Y3, Y4, Y5, Y6, Y7, Y8, Y9, YA, wE]
  exact retA rfl ldk28 rfl rfl rfl sR (hR.trans rfl)
end
end Go.Ab.N
namespace Go.Ab.N
open Go Go.RowKit Go.Proofs
noncomputable section
set_option maxRecDepth 10000
set_option maxHeartbeats 2000000
open Classical

theorem refivalid_fn (neg : Bool) (d : List Int) (hl : d.length < 4611686018427387904) : Fn Tryz.prog 172 [zR neg d] (.bool (validZ neg d)) := by
  obtain ⟨V, hV⟩ : ∃ V, V = validZ neg d := ⟨_, rfl⟩
  rw [← hV]
  unfold validZ at hV
  have fin : ∀ {s : AS} {v : Bool}, s.get 2 = .bool v → v = V → RetOk (envP Tryz.prog Tryz.f172 [] [] (.bool V)) s := fun h e => ret1E rfl h (settled_bool _) (by rw [e])
  refine Fn.intro (fn := Tryz.f172) Tryz.call172 Tryz.func172 rfl mixed 4 [] [] [] (by kernel_rfl) (Nat.le_of_ble_eq_true rfl) (by simp [settled_zR]) (vc_soundN 1000 ?_)
  simp only [AS.start, zR, ↓wPre, wA, ↓reduceIte, reduceIte, reduceCtorEq, Y1, Y2, Y3, Y4, Y5, Y6, Y7, Y8, Y9, YA, wE]
  refine run_loop (fun i : Nat => ⟨4, [], [.any, .ref 0 0 0, .bool false, I i], [], [.row 0 2 (ofL [.bool neg, ints d])]⟩) (fun i => i ≤ d.length ∧ ∀ j, j < i → badD (d.getD j 0) = false) (fun i => d.length - i) 0 ⟨by omega, by omega⟩
    (sub_mk rfl (by simp [subL, I]) (by simp [subT]) (by simp [ints_def])) ?_
  rintro i ⟨hi, hok⟩ next
  have w1 := wj i (by omega)
  by_cases hi2 : i < d.length
  · have f1 : ((i : Int) < d.length) = True := eq_true (by omega)
    have f2 : (i < d.length) = True := eq_true hi2
    have bad : badD (d.getD i 0) = true → false = V := fun h => by
      have : d.any badD = true := List.any_eq_true.2 ⟨d.getD i 0, getD_mem hi2, h⟩
      rw [hV, this]; rfl
    by_cases g1 : d.getD i 0 < 0
    · have k1 : (d.getD i 0 < 0) = True := eq_true g1
      refine vc_soundN 1000 ?_
      simp only [ints_def, w1, f1, f2, k1, Int.toNat_natCast, ↓wPre, wA, ↓reduceIte, reduceIte, reduceCtorEq, Y1, Y2, Y3, Y4, Y5, Y6, Y7, Y8, Y9, YA, wE]
      exact fin rfl (bad (by unfold badD; rw [decide_eq_true g1]; rfl))
    have k1 : (d.getD i 0 < 0) = False := eq_false g1
    by_cases g2 : 1000000000 ≤ d.getD i 0
    · have k2 : (1000000000 ≤ d.getD i 0) = True := eq_true g2
      refine vc_soundN 1000 ?_
      simp only [ints_def, w1, f1, f2, k1, k2, Int.toNat_natCast, ↓wPre, wA, ↓reduceIte, reduceIte, reduceCtorEq, Y1, Y2, Y3, Y4, Y5, Y6, Y7, Y8, Y9, YA, wE]
      exact fin rfl (bad (by unfold badD; rw [decide_eq_true g2]; simp))
    have k2 : (1000000000 ≤ d.getD i 0) = False := eq_false g2
    refine vc_soundN 1000 ?_
    simp only [ints_def, w1, f1, f2, k1, k2, Int.toNat_natCast, ↓wPre, wA, ↓reduceIte, reduceIte, reduceCtorEq, Y1, Y2, Y3, Y4, Y5, Y6, Y7, Y8, Y9, YA, wE]
    refine next (i + 1) _ ⟨by omega, fun j hj => ?_⟩ (by omega) (sub_mk rfl (by simp [subL, I]) (by simp [subT]) (by simp [ints_def]))
    by_cases e : j < i
    · exact hok j e
    · obtain rfl : j = i := by omega
      unfold badD; rw [decide_eq_false g1, decide_eq_false g2]; rfl
  obtain rfl : i = d.length := by omega
  have hall : d.any badD = false := by
    rw [List.any_eq_false]
    intro x hx
    obtain ⟨k, hk, rfl⟩ := List.getElem_of_mem hx
    have := hok k hk
    rw [List.getD_eq_getElem?_getD, List.getElem?_eq_getElem hk] at this
    simpa using this
  rw [hall] at hV
  by_cases h0 : d.length = 0
  · have f1 : (d.length = 0) = True := eq_true h0
    have f2 : ((d.length : Int) = 0) = True := eq_true (by omega)
    refine vc_soundN 1000 ?_
    simp only [ints_def, f1, f2, Int.lt_irrefl, Nat.lt_irrefl, ↓wPre, wA, ↓reduceIte, reduceIte, reduceCtorEq, Y1, Y2, Y3, Y4, Y5, Y6, Y7, Y8, Y9, YA, wE]
    exact fin rfl (by rw [hV, if_pos h0]; simp)
  · have f1 : (d.length = 0) = False := eq_false h0
    have f2 : ((d.length : Int) = 0) = False := eq_false (by omega)
    have f3 : (0 < d.length) = True := eq_true (by omega)
    have f4 : (0 < (d.length : Int)) = True := eq_true (by omega)
    have w2 : IntKind.i64.wrap ((d.length : Int) - 1) = ((d.length - 1 : Nat) : Int) := by rw [IntKind.wrap_i64]; omega
    have f5 : (d.length - 1 < d.length) = True := eq_true (by omega)
    refine vc_soundN 1000 ?_
    simp only [ints_def, f1, f2, f3, f4, f5, w2, Int.toNat_natCast, Int.lt_irrefl, Nat.lt_irrefl, ↓wPre, wA, ↓reduceIte, reduceIte, reduceCtorEq, Y1, Y2, Y3, Y4, Y5, Y6, Y7, Y8, Y9, YA, wE]
    exact fin rfl (by rw [hV, if_neg h0]; simp)
theorem refrvalid_fn (x : RQ) (hx : x.sz < 1000000000) : Fn Tryz.prog 83 [x.A] (.bool (decide x.ok)) := by
  unfold RQ.sz at hx
  obtain ⟨V, hV⟩ : ∃ V, V = decide x.ok := ⟨_, rfl⟩
  have c1 := refivalid_fn x.pn x.pd (by omega)
  have c2 := refivalid_fn x.qn x.qd (by omega)
  have c3 := one04_fn x.qn x.qd
  have bad1 : validZ x.pn x.pd = false → V = false := fun h => by
    rw [hV]
    refine decide_eq_false ?_
    rintro ⟨r, rfl⟩
    have : validZ (RQ.of r).pn (RQ.of r).pd = true := (validZ_iff _ _).2 ⟨r.num, rfl, rfl⟩
    rw [this] at h; cases h
  have bad2 : validZ x.qn x.qd = false → V = false := fun h => by
    rw [hV]
    refine decide_eq_false ?_
    rintro ⟨r, rfl⟩
    have : validZ (RQ.of r).qn (RQ.of r).qd = true := (validZ_iff _ _).2 ⟨(Ab.N.qd r : Int), by unfold RQ.of; simp, by unfold RQ.of; simp⟩
    rw [this] at h; cases h
  have fin : ∀ {s : AS} {v : Bool}, s.get 2 = .bool v → v = V → RetOk (envP Tryz.prog Tryz.f83 [] [] (.bool V)) s := fun h e => ret1E rfl h (settled_bool _) (by rw [e])
  rw [← hV]
  refine Fn.intro (fn := Tryz.f83) Tryz.call83 Tryz.func83 rfl mixed 3 [] [] [] (by kernel_rfl) (Nat.le_of_ble_eq_true rfl) (by simp [settled_RQ]) (vc_soundN 1000 ?_)
  simp only [AS.start, RQ.A, RQ.L, ↓wPre, wA, ↓reduceIte, reduceIte, reduceCtorEq, Y1, Y2, Y3, Y4, Y5, Y6, Y7, Y8, Y9, YA, wE]
  refine call_fn c1 rfl ?_
  by_cases v1 : validZ x.pn x.pd = true
  rotate_left
  · rw [Bool.not_eq_true] at v1
    rw [v1]
    simp only [↓wPre, wA, ↓reduceIte, reduceIte, reduceCtorEq, Y1, Y2, Y3, Y4, Y5, Y6, Y7, Y8, Y9, YA, wE]
    exact fin rfl (bad1 v1).symm
  rw [v1]
  simp only [↓wPre, wA, ↓reduceIte, reduceIte, reduceCtorEq, Y1, Y2, Y3, Y4, Y5, Y6, Y7, Y8, Y9, YA, wE]
  refine call_fn c2 rfl ?_
  by_cases v2 : validZ x.qn x.qd = true
  rotate_left
  · rw [Bool.not_eq_true] at v2
    rw [v2]
    simp only [↓wPre, wA, ↓reduceIte, reduceIte, reduceCtorEq, Y1, Y2, Y3, Y4, Y5, Y6, Y7, Y8, Y9, YA, wE]
    exact fin rfl (bad2 v2).symm
  rw [v2]
  obtain ⟨p, p1, p2⟩ := (validZ_iff _ _).1 v1
  obtain ⟨q, q1, q2⟩ := (validZ_iff _ _).1 v2
  have hok := RQ.ok_iff x p q p1 p2 q1 q2
  have lp : bl p < 1000000000 := by unfold bl; rw [← p2]; omega
  have lq : bl q < 1000000000 := by unfold bl; rw [← q2]; omega
  rw [q1, q2, unit_z] at c3
  have cg := rgcdz_fn p q lp lq
  have cu := onez_fn (Int.gcd p q)
  rw [p1, p2, q1, q2]
  have hl : ((digs q.natAbs).length = 0) = (q = 0) := propext (digs_len_zero.trans (by omega))
  have hlN : (digs q.natAbs).length = 0 ↔ q = 0 := digs_len_zero.trans (by omega)
  have hlI : (((digs q.natAbs).length : Int) = 0) = (q = 0) := propext (by omega)
  by_cases h1 : q < 0
  · have f1 : (q < 0) = True := eq_true h1
    simp only [f1, ↓wPre, wA, ↓reduceIte, reduceIte, reduceCtorEq, Y1, Y2, Y3, Y4, Y5, Y6, Y7, Y8, Y9, YA, wE]
    exact fin rfl (by rw [hV, decide_eq_false (by rw [hok]; exact fun h => h.1 h1)])
  have f1 : (q < 0) = False := eq_false h1
  simp only [f1, ↓wPre, wA, ↓reduceIte, reduceIte, reduceCtorEq, Y1, Y2, Y3, Y4, Y5, Y6, Y7, Y8, Y9, YA, wE]
  have c3' := c3
  rw [decide_eq_false h1] at c3'
  refine call_fn c3' rfl ?_
  by_cases h2 : q = 1
  · have f2 : (q = 1) = True := eq_true h2
    simp only [f1, f2, ↓wPre, wA, ↓reduceIte, reduceIte, reduceCtorEq, Y1, Y2, Y3, Y4, Y5, Y6, Y7, Y8, Y9, YA, wE]
    exact fin rfl (by rw [hV, decide_eq_false (by rw [hok]; exact fun h => h.2.1 h2)])
  have f2 : (q = 1) = False := eq_false h2
  by_cases h0 : q = 0
  · have f3 : (q = 0) = True := eq_true h0
    simp only [f1, f2, f3, hl, hlI, ↓wPre, wA, ↓reduceIte, reduceIte, reduceCtorEq, Y1, Y2, Y3, Y4, Y5, Y6, Y7, Y8, Y9, YA, wE]
    exact fin rfl (by rw [hV, decide_eq_true (hok.2 ⟨h1, h2, .inl h0⟩)])
  have f3 : (q = 0) = False := eq_false h0
  simp only [f1, f2, f3, hl, hlI, ↓wPre, wA, ↓reduceIte, reduceIte, reduceCtorEq, Y1, Y2, Y3, Y4, Y5, Y6, Y7, Y8, Y9, YA, wE]
  rw [zA_ge h1] at cg
  refine call_fn cg rfl ?_
  simp only [↓wPre, wA, ↓reduceIte, reduceIte, reduceCtorEq, Y1, Y2, Y3, Y4, Y5, Y6, Y7, Y8, Y9, YA, wE]
  refine call_fn cu rfl ?_
  simp only [↓wPre, wA, ↓reduceIte, reduceIte, reduceCtorEq, Y1, Y2, Y3, Y4, Y5, Y6, Y7, Y8, Y9, YA, wE]
  refine fin rfl ?_
  rw [hV, decide_eq_decide, hok]
  constructor
  · intro h; exact ⟨h1, h2, .inr (by omega)⟩
  · rintro ⟨_, _, h | h⟩
    · exact absurd h h0
    · rw [h]; rfl
end
end Go.Ab.N
namespace Go.Ab.N
open Go Go.RowKit Go.Proofs
noncomputable section
set_option maxRecDepth 10000
set_option maxHeartbeats 2000000
open Classical

/-! ### Reference 05: vectors -/
theorem refpof_fn (x y : Int) (hx : in64 x) (hy : in64 y) : Fn Tryz.prog 106 [I x, I y] (vA ⟨x, y⟩) := by
  have e : ∀ n : Int, Rat.divInt n 1 = (n : Rat) := fun n => by
    rw [show (1 : Int) = ((1 : Nat) : Int) from rfl, Rat.divInt_ofNat]
    have := Rat.mkRat_self (n : Rat)
    rwa [Rat.num_intCast, Rat.den_intCast] at this
  obtain ⟨R, hR⟩ : ∃ R, R = vA ⟨x, y⟩ := ⟨_, rfl⟩
  have sR : Settled R := hR ▸ settled_vA _
  have c1 := of04_fn x 1 hx ⟨by omega, by omega⟩
  have c2 := of04_fn y 1 hy ⟨by omega, by omega⟩
  rw [e] at c1 c2
  rw [← hR]
  refine Fn.intro (fn := Tryz.f106) Tryz.call106 Tryz.func106 rfl mixed 5 [] [] [] (by kernel_rfl) (Nat.le_of_ble_eq_true rfl) (by simp [settled_ints, settled_I, settled_fn0, settled_intss, settled_bool, settled_nil, settled_zA, settled_qA, settled_vA, settled_zR, settled_ofA, settled_int, settled_pts, settled_bools]) (vc_soundN 1000 ?_); simp (config := { maxSteps := 2000000 }) only [AS.start, ↓wPre, wA, ↓reduceIte, reduceIte, reduceCtorEq, Y1, Y2, Y3, Y4, Y5, Y6, Y7, Y8, Y9, YA, wE]
  refine call_fn c1 rfl ?_
  simp only [↓wPre, wA, ↓reduceIte, reduceIte, reduceCtorEq, Y1, Y2, Y3, Y4, Y5, Y6, Y7, Y8, Y9, YA, wE]
  refine call_fn c2 rfl ?_
  simp only [↓wPre, wA, ↓reduceIte, reduceIte, reduceCtorEq, Y1, Y2, Y3, Y4, Y5, Y6, Y7, Y8, Y9, YA, wE]
  exact retV rfl ldk50 rfl rfl rfl sR (hR.trans rfl)
theorem refpsub_fn (a b : V2) (ha : vb a ≤ rm) (hb : vb b ≤ rm) : Fn Tryz.prog 104 [vA a, vA b] (vA (a.sub b)) := by
  obtain ⟨R, hR⟩ : ∃ R, R = vA (a.sub b) := ⟨_, rfl⟩
  have sR : Settled R := hR ▸ settled_vA _
  have := vb_x a; have := vb_x b; have := vb_y a; have := vb_y b
  have c1 := refrsub_fn a.x b.x (by omega) (by omega)
  have c2 := refrsub_fn a.y b.y (by omega) (by omega)
  rw [← hR]
  refine Fn.intro (fn := Tryz.f104) Tryz.call104 Tryz.func104 rfl mixed 5 [] [] [] (by kernel_rfl) (Nat.le_of_ble_eq_true rfl) (by simp [settled_ints, settled_I, settled_fn0, settled_intss, settled_bool, settled_nil, settled_zA, settled_qA, settled_vA, settled_zR, settled_ofA, settled_int, settled_pts, settled_bools]) (vc_soundN 1000 ?_); simp (config := { maxSteps := 2000000 }) only [AS.start, ↓wPre, wA, ↓reduceIte, reduceIte, reduceCtorEq, Y1, Y2, Y3, Y4, Y5, Y6, Y7, Y8, Y9, YA, wE]
  refine call_fn c1 rfl ?_
  simp only [↓wPre, wA, ↓reduceIte, reduceIte, reduceCtorEq, Y1, Y2, Y3, Y4, Y5, Y6, Y7, Y8, Y9, YA, wE]
  refine call_fn c2 rfl ?_
  simp only [↓wPre, wA, ↓reduceIte, reduceIte, reduceCtorEq, Y1, Y2, Y3, Y4, Y5, Y6, Y7, Y8, Y9, YA, wE]
  exact retV rfl ldk50 rfl rfl rfl sR (hR.trans rfl)
theorem refpcross_fn (a b : V2) (ha : vb a ≤ vm) (hb : vb b ≤ vm) : Fn Tryz.prog 195 [vA a, vA b] (qA (cross a b)) := by
  unfold vm at ha hb
  obtain ⟨R, hR⟩ : ∃ R, R = qA (cross a b) := ⟨_, rfl⟩
  have sR : Settled R := hR ▸ settled_qA _
  have := vb_x a; have := vb_x b; have := vb_y a; have := vb_y b
  have m1 := qb_mul a.x b.y; have m2 := qb_mul a.y b.x
  have c1 := refrmul_fn a.x b.y (by unfold rm; omega) (by unfold rm; omega)
  have c2 := refrmul_fn a.y b.x (by unfold rm; omega) (by unfold rm; omega)
  have c4 := refrsub_fn (a.x * b.y) (a.y * b.x) (by unfold rm; omega) (by unfold rm; omega)
  rw [show a.x * b.y - a.y * b.x = cross a b from rfl, ← hR] at c4
  rw [← hR]
  refine Fn.intro (fn := Tryz.f195) Tryz.call195 Tryz.func195 rfl mixed 5 [] [] [] (by kernel_rfl) (Nat.le_of_ble_eq_true rfl) (by simp [settled_ints, settled_I, settled_fn0, settled_intss, settled_bool, settled_nil, settled_zA, settled_qA, settled_vA, settled_zR, settled_ofA, settled_int, settled_pts, settled_bools]) (vc_soundN 1000 ?_); simp (config := { maxSteps := 2000000 }) only [AS.start, ↓wPre, wA, ↓reduceIte, reduceIte, reduceCtorEq, Y1, Y2, Y3, Y4, Y5, Y6, Y7, Y8, Y9, YA, wE]
  refine call_fn c1 rfl ?_
  simp only [↓wPre, wA, ↓reduceIte, reduceIte, reduceCtorEq, Y1, Y2, Y3, Y4, Y5, Y6, Y7, Y8, Y9, YA, wE]
  refine call_fn c2 rfl ?_
  simp only [↓wPre, wA, ↓reduceIte, reduceIte, reduceCtorEq, Y1, Y2, Y3, Y4, Y5, Y6, Y7, Y8, Y9, YA, wE]
  refine call_fn c4 rfl ?_
  simp only [hR, ↓wPre, wA, ↓reduceIte, reduceIte, reduceCtorEq, Y1, Y2, Y3, Y4, Y5, Y6, Y7, Y8, Y9, YA, wE]
  exact retV rfl ldk28 rfl rfl rfl sR (hR.trans rfl)
theorem refpdot_fn (a b : V2) (ha : vb a ≤ vm) (hb : vb b ≤ vm) : Fn Tryz.prog 193 [vA a, vA b] (qA (dot a b)) := by
  unfold vm at ha hb
  obtain ⟨R, hR⟩ : ∃ R, R = qA (dot a b) := ⟨_, rfl⟩
  have sR : Settled R := hR ▸ settled_qA _
  have := vb_x a; have := vb_x b; have := vb_y a; have := vb_y b
  have m1 := qb_mul a.x b.x; have m2 := qb_mul a.y b.y
  have c1 := refrmul_fn a.x b.x (by unfold rm; omega) (by unfold rm; omega)
  have c2 := refrmul_fn a.y b.y (by unfold rm; omega) (by unfold rm; omega)
  have c4 := refradd_fn (a.x * b.x) (a.y * b.y) (by unfold rm; omega) (by unfold rm; omega)
  rw [show a.x * b.x + a.y * b.y = dot a b from rfl, ← hR] at c4
  rw [← hR]
  refine Fn.intro (fn := Tryz.f193) Tryz.call193 Tryz.func193 rfl mixed 5 [] [] [] (by kernel_rfl) (Nat.le_of_ble_eq_true rfl) (by simp [settled_ints, settled_I, settled_fn0, settled_intss, settled_bool, settled_nil, settled_zA, settled_qA, settled_vA, settled_zR, settled_ofA, settled_int, settled_pts, settled_bools]) (vc_soundN 1000 ?_); simp (config := { maxSteps := 2000000 }) only [AS.start, ↓wPre, wA, ↓reduceIte, reduceIte, reduceCtorEq, Y1, Y2, Y3, Y4, Y5, Y6, Y7, Y8, Y9, YA, wE]
  refine call_fn c1 rfl ?_
  simp only [↓wPre, wA, ↓reduceIte, reduceIte, reduceCtorEq, Y1, Y2, Y3, Y4, Y5, Y6, Y7, Y8, Y9, YA, wE]
  refine call_fn c2 rfl ?_
  simp only [↓wPre, wA, ↓reduceIte, reduceIte, reduceCtorEq, Y1, Y2, Y3, Y4, Y5, Y6, Y7, Y8, Y9, YA, wE]
  refine call_fn c4 rfl ?_
  simp only [hR, ↓wPre, wA, ↓reduceIte, reduceIte, reduceCtorEq, Y1, Y2, Y3, Y4, Y5, Y6, Y7, Y8, Y9, YA, wE]
  exact retV rfl ldk28 rfl rfl rfl sR (hR.trans rfl)
theorem refpside_fn (a b c : V2) (ha : vb a ≤ vs) (hb : vb b ≤ vs) (hc : vb c ≤ vs) : Fn Tryz.prog 182 [vA a, vA b, vA c] (I (side a b c)) := by
  unfold vs at ha hb hc
  have m1 := vb_sub b a; have m2 := vb_sub c a
  have c1 := refpsub_fn b a (by unfold rm; omega) (by unfold rm; omega)
  have c2 := refpsub_fn c a (by unfold rm; omega) (by unfold rm; omega)
  have c3 := refpcross_fn (b.sub a) (c.sub a) (by unfold vm; omega) (by unfold vm; omega)
  have q := qb_cross (b.sub a) (c.sub a)
  have c4 := refrsign_fn (cross (b.sub a) (c.sub a)) (by unfold rm; omega)
  refine Fn.intro (fn := Tryz.f182) Tryz.call182 Tryz.func182 rfl mixed 7 [] [] [] (by kernel_rfl) (Nat.le_of_ble_eq_true rfl) (by simp [settled_ints, settled_I, settled_fn0, settled_intss, settled_bool, settled_nil, settled_zA, settled_qA, settled_vA, settled_zR, settled_ofA, settled_int, settled_pts, settled_bools]) (vc_soundN 1000 ?_); simp (config := { maxSteps := 2000000 }) only [AS.start, ↓wPre, wA, ↓reduceIte, reduceIte, reduceCtorEq, Y1, Y2, Y3, Y4, Y5, Y6, Y7, Y8, Y9, YA, wE]
  refine call_fn c1 rfl ?_
  simp only [↓wPre, wA, ↓reduceIte, reduceIte, reduceCtorEq, Y1, Y2, Y3, Y4, Y5, Y6, Y7, Y8, Y9, YA, wE]
  refine call_fn c2 rfl ?_
  simp only [↓wPre, wA, ↓reduceIte, reduceIte, reduceCtorEq, Y1, Y2, Y3, Y4, Y5, Y6, Y7, Y8, Y9, YA, wE]
  refine call_fn c3 rfl ?_
  simp only [↓wPre, wA, ↓reduceIte, reduceIte, reduceCtorEq, Y1, Y2, Y3, Y4, Y5, Y6, Y7, Y8, Y9, YA, wE]
  refine call_fn c4 rfl ?_
  simp only [↓wPre, wA, ↓reduceIte, reduceIte, reduceCtorEq, Y1, Y2, Y3, Y4, Y5, Y6, Y7, Y8, Y9, YA, wE]
  exact ret1E rfl rfl (settled_I _) rfl
end
end Go.Ab.N
namespace Go.Ab.N
open Go Go.RowKit Go.Proofs
noncomputable section
set_option maxRecDepth 10000
set_option maxHeartbeats 2000000
open Classical

/-! ### Reference 06: corners -/
def V2.turned (a : V2) : V2 := ⟨-a.y, a.x⟩
theorem vb_turned (a : V2) : vb a.turned = vb a := by
  unfold vb V2.turned
  simp only [qb_negR]
  omega
theorem turned_fn (a : V2) (ha : vb a ≤ rm) : Fn Tryz.prog 229 [vA a] (vA a.turned) := by
  have := vb_y a
  have c := refrneg_fn a.y (by omega)
  obtain ⟨R, hR⟩ : ∃ R, R = vA a.turned := ⟨_, rfl⟩
  have sR : Settled R := hR ▸ settled_vA _
  rw [← hR]
  refine Fn.intro (fn := Tryz.f229) Tryz.call229 Tryz.func229 rfl mixed 3 [] [] [] (by kernel_rfl) (Nat.le_of_ble_eq_true rfl) (by simp [settled_ints, settled_I, settled_fn0, settled_intss, settled_bool, settled_nil, settled_zA, settled_qA, settled_vA, settled_zR, settled_ofA, settled_int, settled_pts, settled_bools]) (vc_soundN 1000 ?_); simp (config := { maxSteps := 2000000 }) only [AS.start, ↓wPre, wA, ↓reduceIte, reduceIte, reduceCtorEq, Y1, Y2, Y3, Y4, Y5, Y6, Y7, Y8, Y9, YA, wE]
  refine call_fn c rfl ?_
  simp only [↓wPre, wA, ↓reduceIte, reduceIte, reduceCtorEq, Y1, Y2, Y3, Y4, Y5, Y6, Y7, Y8, Y9, YA, wE]
  exact retV rfl ldk50 rfl rfl rfl sR (hR.trans rfl)
theorem corner_fn (L : List V2) (i : Nat) (hn : L.length < 1000000) (h0 : L.length ≠ 0) (hi : i < 1000000000) : Fn Tryz.prog 183 [vecs L, I i] (vA (L.getD (i % L.length) v0)) := by
  obtain ⟨R, hR⟩ : ∃ R, R = vA (L.getD (i % L.length) v0) := ⟨_, rfl⟩
  have sR : Settled R := hR ▸ settled_vA _
  have hm : (i : Int).tmod L.length = ((i % L.length : Nat) : Int) := rfl
  have hml : i % L.length < L.length := Nat.mod_lt _ (by omega)
  have f4 : (i % L.length < L.length) = True := eq_true hml
  have f5 : (i % L.length * 8 + 8 ≤ L.length * 8) = True := eq_true (by omega)
  have f6 : ((L.length : Int) = 0) = False := eq_false (by omega)
  have f6' : (L.length = 0) = False := eq_false h0
  have v1 := vF L (i % L.length)
  rw [← hR]
  refine Fn.intro (fn := Tryz.f183) Tryz.call183 Tryz.func183 rfl mixed 5 [] [] [] (by kernel_rfl) (Nat.le_of_ble_eq_true rfl) (by simp [settled_vecs, settled_I]) (vc_soundN 1000 ?_)
  simp only [AS.start, vecs_def, f4, f5, f6, f6', hm, v1, Int.toNat_natCast, ↓wPre, wA, ↓reduceIte, reduceIte, reduceCtorEq, Y1, Y2, Y3, Y4, Y5, Y6, Y7, Y8, Y9, YA, wE]
  exact retV rfl ldk50 rfl rfl rfl sR (hR.trans rfl)
theorem next_fn (L : List V2) (i : Nat) (hn : L.length < 1000000) (hi : i < L.length) : Fn Tryz.prog 231 [vecs L, I i] (vA (L.getD ((i + 1) % L.length) v0)) := by
  obtain ⟨R, hR⟩ : ∃ R, R = vA (L.getD ((i + 1) % L.length) v0) := ⟨_, rfl⟩
  have sR : Settled R := hR ▸ settled_vA _
  have w1 := wj i (by omega)
  rw [← hR]
  refine Fn.intro (fn := Tryz.f231) Tryz.call231 Tryz.func231 rfl mixed 5 [] [] [] (by kernel_rfl) (Nat.le_of_ble_eq_true rfl) (by simp [settled_vecs, settled_I]) (vc_soundN 1000 ?_)
  by_cases h : i + 1 < L.length
  · have e : (i + 1) % L.length = i + 1 := Nat.mod_eq_of_lt h
    have f1 : (((i + 1 : Nat) : Int) < L.length) = True := eq_true (by omega)
    have f1' : (i + 1 < L.length) = True := eq_true h
    have f2 : ((i + 1) * 8 + 8 ≤ L.length * 8) = True := eq_true (by omega)
    have v1 := vF L (i + 1)
    rw [e] at hR
    simp only [AS.start, vecs_def, w1, f1, f1', f2, v1, Int.toNat_natCast, ↓wPre, wA, ↓reduceIte, reduceIte, reduceCtorEq, Y1, Y2, Y3, Y4, Y5, Y6, Y7, Y8, Y9, YA, wE]
    exact retV rfl ldk50 rfl rfl rfl sR (hR.trans rfl)
  · have hl : i + 1 = L.length := by omega
    have e : (i + 1) % L.length = 0 := by rw [hl, Nat.mod_self]
    have f1 : (((i + 1 : Nat) : Int) < L.length) = False := eq_false (by omega)
    have f1' : (i + 1 < L.length) = False := eq_false h
    have f2 : (0 < L.length) = True := eq_true (by omega)
    have f2' : ((0 : Int) < L.length) = True := eq_true (by omega)
    have f3 : (8 ≤ L.length * 8) = True := eq_true (by omega)
    have v1 := vF L 0
    rw [Nat.zero_mul] at v1
    simp only [Nat.zero_add] at v1
    rw [e] at hR
    simp only [AS.start, vecs_def, w1, f1, f1', f2, f2', f3, v1, Int.toNat_zero, ↓wPre, wA, ↓reduceIte, reduceIte, reduceCtorEq, Y1, Y2, Y3, Y4, Y5, Y6, Y7, Y8, Y9, YA, wE]
    exact retV rfl ldk50 rfl rfl rfl sR (hR.trans rfl)
end
end Go.Ab.N
namespace Go.Ab.N
open Go Go.RowKit Go.Proofs
noncomputable section
set_option maxRecDepth 10000
set_option maxHeartbeats 2000000
open Classical

/-! ### Reference 06: Area by trapezoids -/
def trap (a b : V2) : Rat := (a.x - b.x) * (a.y + b.y)
def trapS (L : List V2) : Nat → Rat
  | 0 => 0
  | i + 1 => trapS L i + trap (L.getD i v0) (L.getD ((i + 1) % L.length) v0)
def trapF (L : List V2) : Rat := trapS L L.length * Rat.divInt 1 2
theorem trap_qb (a b : V2) : qb (trap a b) ≤ 2 * (vb a + vb b) + 2 := by
  have := vb_x a; have := vb_x b; have := vb_y a; have := vb_y b
  have m1 := qb_sub a.x b.x; have m2 := qb_add a.y b.y
  have m3 := qb_mul (a.x - b.x) (a.y + b.y)
  unfold trap; omega
theorem trapS_qb (L : List V2) (k : Nat) (h : smallV L k) : ∀ i, qb (trapS L i) ≤ (4 * k + 4) * i + 1
  | 0 => by have := qb_zero; simp only [trapS]; omega
  | i + 1 => by
    have ih := trapS_qb L k h i
    have h1 := trap_qb (L.getD i v0) (L.getD ((i + 1) % L.length) v0)
    have h2 := h i
    have h3 := h ((i + 1) % L.length)
    have h4 := qb_add (trapS L i) (trap (L.getD i v0) (L.getD ((i + 1) % L.length) v0))
    have e : (4 * k + 4) * (i + 1) = (4 * k + 4) * i + (4 * k + 4) := Nat.mul_succ _ _
    simp only [trapS]
    omega
theorem trapS_area (L : List V2) : ∀ i, i < L.length → trapS L i = areaS L i + (L.getD 0 v0).x * (L.getD 0 v0).y - (L.getD i v0).x * (L.getD i v0).y
  | 0, _ => by simp only [trapS, areaS]; grind
  | i + 1, h => by
    have ih := trapS_area L i (by omega)
    have e : (i + 1) % L.length = i + 1 := Nat.mod_eq_of_lt h
    simp only [trapS, areaS, e, ih, trap, cross]
    grind
theorem trapF_area (L : List V2) : trapF L = areaF L := by
  unfold trapF areaF
  congr 1
  cases hn : L.length with
  | zero => rfl
  | succ n =>
    have ih := trapS_area L n (by omega)
    have e : (n + 1) % L.length = 0 := by rw [hn, Nat.mod_self]
    simp only [trapS, areaS, e, ih, trap, cross]
    grind
end
end Go.Ab.N
namespace Go.Ab.N
open Go Go.RowKit Go.Proofs
noncomputable section
set_option maxRecDepth 10000
set_option maxHeartbeats 2000000
open Classical

theorem refarea_fn (L : List V2) (k : Nat) (h : smallV L k) (hk : k ≤ 1000) (hl : L.length ≤ 1000) : Fn Tryz.prog 185 [vecs L] (qA (areaF L)) := by
  rw [← trapF_area]
  obtain ⟨R, hR⟩ : ∃ R, R = qA (trapF L) := ⟨_, rfl⟩
  have sR : Settled R := hR ▸ settled_qA _
  have bv : Bel 2 (vecs L) = True := eq_true (bel_of_settled (settled_vecs L))
  have bT : ∀ i, belO 2 (.row 0 4 (ofL (qC (trapS L i)))) = True := fun i => eq_true (belO_set (by simp [qC, settled_ints, settled_bool]))
  rw [← hR]
  refine Fn.intro (fn := Tryz.f185) Tryz.call185 Tryz.func185 rfl mixed 6 [] [6, 7000, 70000005, 7, 80000003] [] (by kernel_rfl) (Nat.le_of_ble_eq_true rfl) (by simp [settled_vecs]) (vc_soundN 1000 ?_)
  simp only [AS.start, vecs_def, ↓wPre, wA, ↓reduceIte, reduceIte, reduceCtorEq, Y1, Y2, Y3, Y4, Y5, Y6, Y7, Y8, Y9, YA, wE]
  refine run_loop (fun i : Nat => ⟨6, [], [vecs L, .any, .ref 0 0 0, .ref 1 0 0, I i, .any], [], [areaA, .row 0 4 (ofL (qC (trapS L i)))]⟩) (fun i => i ≤ L.length) (fun i => L.length - i) 0 (by omega)
    ?_ ?_
  · refine Sub.trans (sub_roww 1 (ofL (qC 0)) rfl fun j hj => ?_) (sub_mk rfl (by simp [subL, vecs_def, I]) (by simp [subT, look]) (by simp [areaA, trapS]))
    match j, hj with
    | 0, _ => exact weakIn_rfl _ _
    | 1, _ => exact weakIn_of (weak_empE (by rw [Rat.zero_num]; simp [digs_zero]))
    | 2, _ => exact weakIn_rfl _ _
    | 3, _ => exact weakIn_of (weak_empE (qd_one rfl))
    | j + 4, h => omega
  intro i hi next
  have w1 := wj i (by omega)
  have hq := trapS_qb L k h i
  have hq2 : (4 * k + 4) * i ≤ 4004 * 1000 := Nat.mul_le_mul (by omega) (by omega)
  by_cases hi2 : i < L.length
  rotate_left
  · obtain rfl : i = L.length := by omega
    have c1 := of04_fn 1 2 ⟨by omega, by omega⟩ ⟨by omega, by omega⟩
    have c2 := refrmul_fn (trapS L L.length) (Rat.divInt 1 2) (by unfold rm; omega) (by have := (qb_divInt 1 2 3 (by omega) (bl_i64 ⟨by omega, by omega⟩) (bl_i64 ⟨by omega, by omega⟩) : qb (Rat.divInt 1 2) ≤ 3); unfold rm; omega)
    rw [show trapS L L.length * Rat.divInt 1 2 = trapF L from rfl, ← hR] at c2
    refine vc_soundN 1000 ?_
    simp only [areaA, vecs_def, Int.lt_irrefl, Nat.lt_irrefl, ↓wPre, wA, ↓reduceIte, reduceIte, reduceCtorEq, Y1, Y2, Y3, Y4, Y5, Y6, Y7, Y8, Y9, YA, wE]
    refine call_fn c1 rfl ?_
    simp only [↓wPre, wA, ↓reduceIte, reduceIte, reduceCtorEq, Y1, Y2, Y3, Y4, Y5, Y6, Y7, Y8, Y9, YA, wE]
    refine call_fn c2 rfl ?_
    simp only [hR, ↓wPre, wA, ↓reduceIte, reduceIte, reduceCtorEq, Y1, Y2, Y3, Y4, Y5, Y6, Y7, Y8, Y9, YA, wE]
    exact retA rfl ldk28 rfl rfl rfl sR (hR.trans rfl)
  have f1 : ((i : Int) < L.length) = True := eq_true (by omega)
  have f2 : (i < L.length) = True := eq_true hi2
  have f3 : (i * 8 + 8 ≤ L.length * 8) = True := eq_true (by omega)
  have f4 : (i * 8 + 4 ≤ L.length * 8) = True := eq_true (by omega)
  have f5 : (i * 8 + 4 + 4 ≤ L.length * 8) = True := eq_true (by omega)
  have v1 := vF L i
  have cn := next_fn L i (by omega) hi2
  obtain ⟨b, hb⟩ : ∃ b, b = L.getD ((i + 1) % L.length) v0 := ⟨_, rfl⟩
  have h1 := h i; have h2 := h ((i + 1) % L.length)
  rw [← hb] at cn h2
  have := vb_x (L.getD i v0); have := vb_y (L.getD i v0); have := vb_x b; have := vb_y b
  have m1 := qb_sub (L.getD i v0).x b.x; have m2 := qb_add (L.getD i v0).y b.y
  have m3 := qb_mul ((L.getD i v0).x - b.x) ((L.getD i v0).y + b.y)
  have c1 := refrsub_fn (L.getD i v0).x b.x (by unfold rm; omega) (by unfold rm; omega)
  have c2 := refradd_fn (L.getD i v0).y b.y (by unfold rm; omega) (by unfold rm; omega)
  have c3 := refrmul_fn ((L.getD i v0).x - b.x) ((L.getD i v0).y + b.y) (by unfold rm; omega) (by unfold rm; omega)
  have c4 := refradd_fn (trapS L i) (((L.getD i v0).x - b.x) * ((L.getD i v0).y + b.y)) (by unfold rm; omega) (by unfold rm; omega)
  have e : trapS L i + ((L.getD i v0).x - b.x) * ((L.getD i v0).y + b.y) = trapS L (i + 1) := by rw [hb]; rfl
  rw [e] at c4
  refine vc_soundN 1000 ?_
  simp only [areaA, vecs_def, w1, f1, f2, f3, f4, f5, v1, Int.toNat_natCast, ↓wPre, wA, ↓reduceIte, reduceIte, reduceCtorEq, Y1, Y2, Y3, Y4, Y5, Y6, Y7, Y8, Y9, YA, wE]
  refine call_fn cn rfl ?_
  simp only [areaA, vecs_def, w1, f1, f2, f3, f4, f5, v1, Int.toNat_natCast, ↓wPre, wA, ↓reduceIte, reduceIte, reduceCtorEq, Y1, Y2, Y3, Y4, Y5, Y6, Y7, Y8, Y9, YA, wE]
  refine call_fn c1 rfl ?_
  simp only [areaA, vecs_def, w1, f1, f2, f3, f4, f5, v1, Int.toNat_natCast, ↓wPre, wA, ↓reduceIte, reduceIte, reduceCtorEq, Y1, Y2, Y3, Y4, Y5, Y6, Y7, Y8, Y9, YA, wE]
  refine call_fn c2 rfl ?_
  simp only [areaA, vecs_def, w1, f1, f2, f3, f4, f5, v1, Int.toNat_natCast, ↓wPre, wA, ↓reduceIte, reduceIte, reduceCtorEq, Y1, Y2, Y3, Y4, Y5, Y6, Y7, Y8, Y9, YA, wE]
  refine call_fn c3 rfl ?_
  simp only [areaA, vecs_def, w1, f1, f2, f3, f4, f5, v1, Int.toNat_natCast, ↓wPre, wA, ↓reduceIte, reduceIte, reduceCtorEq, Y1, Y2, Y3, Y4, Y5, Y6, Y7, Y8, Y9, YA, wE]
  refine call_fn c4 rfl ?_
  simp only [areaA, vecs_def, w1, f1, f2, f3, f4, f5, v1, Int.toNat_natCast, ↓wPre, wA, ↓reduceIte, reduceIte, reduceCtorEq, Y1, Y2, Y3, Y4, Y5, Y6, Y7, Y8, Y9, YA, wE]
  refine next (i + 1) _ (by omega) (by omega) (sub_cut (m := 2) (Nat.zero_le _) rfl (by simp [vecs_def, subL, I]) (by simp [subT]) (by simp [areaA, qC, ints_def]) (by simp [wBel, bv]) (by simp) (by simp [areaA, wBel, bT]))
end
end Go.Ab.N
namespace Go.Ab.N
open Go Go.RowKit Go.Proofs
noncomputable section
set_option maxRecDepth 10000
set_option maxHeartbeats 2000000
open Classical

/-! ### What an axis separates does not meet -/
def lessF (p q r s : Rat) : Bool := decide (p < r) && decide (p < s) && decide (q < r) && decide (q < s)
def betweenF (n a b c d : V2) : Bool := lessF (dot n a) (dot n b) (dot n c) (dot n d) || lessF (dot n c) (dot n d) (dot n a) (dot n b)
theorem sep_num {p q r s fa fb fc fd : Rat} (h1 : p * fd - q * fc = s * fa - r * fb) (h2 : p - q = s - r) (hp : 0 < p) (hq : q < 0) (hs : 0 < s) (hr : r < 0) (k1 : fa < fc) (k2 : fa < fd) (k3 : fb < fc) (k4 : fb < fd) : False := by
  have pos : ∀ x, x < fc → x < fd → 0 < p * (fd - x) + (-q) * (fc - x) := fun x hx1 hx2 => by
    have := Rat.mul_pos hp (show 0 < fd - x by grind)
    have := Rat.mul_pos (show 0 < -q by grind) (show 0 < fc - x by grind)
    grind
  rcases Rat.le_total (a := fa) (b := fb) with h | h
  · have h3 := pos fb k3 k4
    have h4 := Rat.mul_nonneg (Rat.le_of_lt hs) (show 0 ≤ fb - fa by grind)
    have e1 : p * (fd - fb) + -q * (fc - fb) = (p * fd - q * fc) - (p - q) * fb := by grind
    have e2 : (s * fa - r * fb) - (s - r) * fb = -(s * (fb - fa)) := by grind
    rw [e1, h1, h2, e2] at h3
    generalize s * (fb - fa) = z at h3 h4
    grind
  · have h3 := pos fa k1 k2
    have h4 := Rat.mul_nonneg (show 0 ≤ -r by grind) (show 0 ≤ fa - fb by grind)
    have e1 : p * (fd - fa) + -q * (fc - fa) = (p * fd - q * fc) - (p - q) * fa := by grind
    have e2 : (s * fa - r * fb) - (s - r) * fa = -(-r * (fa - fb)) := by grind
    rw [e1, h1, h2, e2] at h3
    generalize -r * (fa - fb) = z at h3 h4
    grind
theorem sq_nonneg (x : Rat) : 0 ≤ x * x := by
  rcases Rat.le_total (a := 0) (b := x) with h | h
  · exact Rat.mul_nonneg h h
  · have := Rat.mul_nonneg (show 0 ≤ -x by grind) (show 0 ≤ -x by grind)
    grind
theorem sep_proper (n a b c d : V2) (k1 : dot n a < dot n c) (k2 : dot n a < dot n d) (k3 : dot n b < dot n c) (k4 : dot n b < dot n d) : properF a b c d = false := by
  have h1 : cross (b.sub a) (c.sub a) * dot n d - cross (b.sub a) (d.sub a) * dot n c = cross (d.sub c) (b.sub c) * dot n a - cross (d.sub c) (a.sub c) * dot n b := by
    unfold cross dot V2.sub; grind
  have h2 : cross (b.sub a) (c.sub a) - cross (b.sub a) (d.sub a) = cross (d.sub c) (b.sub c) - cross (d.sub c) (a.sub c) := by
    unfold cross V2.sub; grind
  rw [← Bool.not_eq_true]
  intro h
  unfold properF side at h
  simp only [Bool.and_eq_true, decide_eq_true_eq] at h
  generalize cross (b.sub a) (c.sub a) = p at h1 h2 h
  generalize cross (b.sub a) (d.sub a) = q at h1 h2 h
  generalize cross (d.sub c) (a.sub c) = r at h1 h2 h
  generalize cross (d.sub c) (b.sub c) = s at h1 h2 h
  have sp : ∀ x y : Rat, x.num.sign * y.num.sign < 0 → (0 < x ∧ y < 0) ∨ (x < 0 ∧ 0 < y) := fun x y h => by
    rw [← sign_gt, ← sign_gt, ← sign_lt, ← sign_lt]
    rcases Int.lt_trichotomy x.num.sign 0 with hx | hx | hx
    · rcases Int.lt_trichotomy y.num.sign 0 with hy | hy | hy
      · have := Int.mul_pos_of_neg_of_neg hx hy; omega
      · rw [hy] at h; omega
      · exact .inr ⟨hx, hy⟩
    · rw [hx] at h; omega
    · rcases Int.lt_trichotomy y.num.sign 0 with hy | hy | hy
      · exact .inl ⟨hx, hy⟩
      · rw [hy] at h; omega
      · have := Int.mul_pos hx hy; omega
  rcases sp p q h.1 with ⟨hp, hq⟩ | ⟨hp, hq⟩
  · rcases sp r s h.2 with ⟨hr, hs⟩ | ⟨hr, hs⟩
    · grind
    · exact sep_num h1 h2 hp hq hs hr k1 k2 k3 k4
  · rcases sp r s h.2 with ⟨hr, hs⟩ | ⟨hr, hs⟩
    · exact sep_num (p := -p) (q := -q) (r := -r) (s := -s) (by grind) (by grind) (by grind) (by grind) (by grind) (by grind) k1 k2 k3 k4
    · grind
theorem sep_on (n a b c : V2) (k1 : dot n a < dot n c) (k2 : dot n b < dot n c) : onF a b c = false := by
  have hid : dot (a.sub c) (b.sub c) * dot n (a.sub c) - dot (a.sub c) (a.sub c) * dot n (b.sub c) = cross (b.sub a) (c.sub a) * (n.x * (a.sub c).y - n.y * (a.sub c).x) := by
    unfold dot cross V2.sub; grind
  have ha : dot n (a.sub c) < 0 := by
    have : dot n (a.sub c) = dot n a - dot n c := by unfold dot V2.sub; grind
    grind
  have hb : dot n (b.sub c) < 0 := by
    have : dot n (b.sub c) = dot n b - dot n c := by unfold dot V2.sub; grind
    grind
  have hu : 0 < dot (a.sub c) (a.sub c) := by
    have hx := sq_nonneg (a.sub c).x
    have hy := sq_nonneg (a.sub c).y
    have hne : ¬ dot (a.sub c) (a.sub c) = 0 := fun h => by
      unfold dot at h
      have h1 : (a.sub c).x * (a.sub c).x = 0 := by grind
      have h2 : (a.sub c).y * (a.sub c).y = 0 := by grind
      have h3 : (a.sub c).x = 0 := by rcases Rat.mul_eq_zero.1 h1 with h | h <;> exact h
      have h4 : (a.sub c).y = 0 := by rcases Rat.mul_eq_zero.1 h2 with h | h <;> exact h
      unfold dot at ha
      rw [h3, h4] at ha
      grind
    unfold dot at hne ⊢
    grind
  rw [← Bool.not_eq_true]
  intro h
  unfold onF side at h
  simp only [Bool.and_eq_true, decide_eq_true_eq, sign_eq] at h
  obtain ⟨h1, h2⟩ := h
  rw [h1] at hid
  have h2' : dot (a.sub c) (b.sub c) ≤ 0 := by
    rw [← Rat.not_lt, ← sign_gt]; omega
  have m1 := Rat.mul_nonneg (show 0 ≤ -dot (a.sub c) (b.sub c) by grind) (show 0 ≤ -dot n (a.sub c) by grind)
  have m2 := Rat.mul_pos hu (show 0 < -dot n (b.sub c) by grind)
  grind
theorem sep_on2 (n a b c : V2) (k1 : dot n c < dot n a) (k2 : dot n c < dot n b) : onF a b c = false :=
  sep_on ⟨-n.x, -n.y⟩ a b c (by unfold dot at *; grind) (by unfold dot at *; grind)
theorem sep_meets (n a b c d : V2) (k1 : dot n a < dot n c) (k2 : dot n a < dot n d) (k3 : dot n b < dot n c) (k4 : dot n b < dot n d) : meetsF a b c d = false := by
  unfold meetsF
  rw [sep_proper n a b c d k1 k2 k3 k4, sep_on n a b c k1 k3, sep_on n a b d k2 k4, sep_on2 n c d a k1 k2, sep_on2 n c d b k3 k4]
  rfl
theorem between_meets (n a b c d : V2) (h : betweenF n a b c d = true) : meetsF a b c d = false := by
  unfold betweenF lessF at h
  simp only [Bool.or_eq_true, Bool.and_eq_true, decide_eq_true_eq] at h
  rcases h with ⟨⟨⟨h1, h2⟩, h3⟩, h4⟩ | ⟨⟨⟨h1, h2⟩, h3⟩, h4⟩
  · exact sep_meets n a b c d h1 h2 h3 h4
  · exact sep_meets ⟨-n.x, -n.y⟩ a b c d (by unfold dot at *; grind) (by unfold dot at *; grind) (by unfold dot at *; grind) (by unfold dot at *; grind)
def axis (a b c d : V2) : Nat → V2
  | 0 => (b.sub a).turned
  | 1 => (d.sub c).turned
  | 2 => b.sub a
  | 3 => d.sub c
  | _ => c.sub a
/-- Whether no axis of the reference lies between two segments. -/
def refMeets (a b c d : V2) : Prop := ∀ i, i < 5 → betweenF (axis a b c d i) a b c d = false
theorem ref_meets (a b c d : V2) (h : ¬ refMeets a b c d) : meetsF a b c d = false := by
  unfold refMeets at h
  simp only [Classical.not_forall] at h
  obtain ⟨i, _, h⟩ := h
  exact between_meets _ a b c d (by simpa using h)
def gapBad (L : List V2) (i k : Nat) : Prop := 1 < (k + L.length - i) % L.length ∧ (k + L.length - i) % L.length < L.length - 1 ∧ refMeets (atF L i) (atF L (i + 1)) (atF L k) (atF L (k + 1))
def goodRef (L : List V2) (i : Nat) : Prop := ¬ badSide L i ∧ ∀ k, k < L.length → ¬ gapBad L i k
/-- A valid polygon, as the reference checks it. -/
def refPoly (L : List V2) : Prop := (3 ≤ L.length ∧ L.length ≤ 12) ∧ (∀ i, i < L.length → goodRef L i) ∧ 0 < (areaF L).num.sign
theorem ref_poly (L : List V2) (h : refPoly L) : polyOk L := by
  obtain ⟨h1, h2, h3⟩ := h
  refine ⟨h1, fun i hi => ⟨(h2 i hi).1, fun k hk1 hk2 hb => ?_⟩, h3⟩
  have hg := (h2 i hi).2 k hk2
  have e : (k + L.length - i) % L.length = k - i := by
    rw [show k + L.length - i = (k - i) + L.length by omega, Nat.add_mod_right, Nat.mod_eq_of_lt (by omega)]
  have hne : k - i < L.length - 1 := by
    rcases Nat.lt_or_ge (k - i) (L.length - 1) with h | h
    · exact h
    · exfalso
      have h1 : k = L.length - 1 := by omega
      have h2 : i = 0 := by omega
      have : (k + 1) % L.length = 0 := by rw [show k + 1 = L.length by omega, Nat.mod_self]
      exact hb.1 (by omega)
  have hm : ¬ refMeets (atF L i) (atF L (i + 1)) (atF L k) (atF L (k + 1)) := fun hm => hg ⟨by omega, by omega, hm⟩
  have := ref_meets _ _ _ _ hm
  rw [hb.2] at this
  exact absurd this (by decide)
end
end Go.Ab.N
namespace Go.Ab.N
open Go Go.RowKit Go.Proofs
noncomputable section
set_option maxRecDepth 10000
set_option maxHeartbeats 4000000
open Classical

/-! ### Pieces and casts, as the reference checks them -/
def fineR (p : PV) : Prop := (p.rim.length ≤ 12 ∧ p.worn.length = p.rim.length ∧ p.marks.length = p.rim.length) ∧
  (∃ t l h s r : Rat, (p.tol = RQ.of t ∧ p.light = RQ.of l ∧ p.heavy = RQ.of h ∧ p.strength = RQ.of s ∧ p.rough = RQ.of r) ∧ (0 ≤ t ∧ t ≤ 4 ∧ 0 ≤ r ∧ r ≤ 4) ∧ (0 < l ∧ l ≤ h ∧ h ≤ 1000) ∧ 0 < s) ∧ refPoly (rimV p.rim)
def refErr (p : PV) : Int := if rangeOk p then (if fineR p then 0 else 1) else 5
theorem refErr_0 (p : PV) : refErr p = 0 ↔ rangeOk p ∧ fineR p := by
  unfold refErr
  by_cases h1 : rangeOk p
  · rw [if_pos h1]
    by_cases h2 : fineR p
    · rw [if_pos h2]; exact ⟨fun _ => ⟨h1, h2⟩, fun _ => rfl⟩
    · rw [if_neg h2]; exact ⟨fun h => absurd h (by decide), fun h => absurd h.2 h2⟩
  · rw [if_neg h1]; exact ⟨fun h => absurd h (by decide), fun h => absurd h.1 h1⟩
theorem pieceErr_0 (p : PV) : pieceErr p = 0 ↔ rangeOk p ∧ fineP p := by
  unfold pieceErr
  by_cases h1 : rangeOk p
  · rw [if_pos h1]
    by_cases h2 : fineP p
    · rw [if_pos h2]; exact ⟨fun _ => ⟨h1, h2⟩, fun _ => rfl⟩
    · rw [if_neg h2]; exact ⟨fun h => absurd h (by decide), fun h => absurd h.2 h2⟩
  · rw [if_neg h1]; exact ⟨fun h => absurd h (by decide), fun h => absurd h.1 h1⟩
theorem fineR_P {p : PV} (h : fineR p) : fineP p := ⟨h.1, h.2.1, ref_poly _ h.2.2⟩
theorem refErr_P {p : PV} (h : refErr p = 0) : pieceErr p = 0 := (pieceErr_0 p).2 ⟨((refErr_0 p).1 h).1, fineR_P ((refErr_0 p).1 h).2⟩
theorem cast_err {p : PV} (hp : refErr p = 0) (id home : Int) (t : Rat) : refErr (castC p id home t) = 0 ↔ pieceErr (castC p id home t) = 0 := by
  refine ⟨refErr_P, fun h => ?_⟩
  have h1 := (pieceErr_0 _).1 h
  have h2 := ((refErr_0 p).1 hp).2.2.2
  exact (refErr_0 _).2 ⟨h1.1, h1.2.1, h1.2.2.1, h2⟩
/-- A cast, as the reference makes it. -/
def refOf (p : PV) (id home : Int) (a : Rat) (x : RQ) : PV × Int :=
  if h : ∃ q : Rat, x = RQ.of q ∧ 0 ≤ q then
    let c := castC p id home (a + h.choose)
    if refErr c = 0 then (c, 0) else (zeroP, 1)
  else (zeroP, 1)
theorem ref_of {p : PV} (hp : refErr p = 0) (id home : Int) (a : Rat) (x : RQ) : refOf p id home a x = castOf p id home a x := by
  unfold refOf castOf
  by_cases h : ∃ q : Rat, x = RQ.of q ∧ 0 ≤ q
  · rw [dif_pos h, dif_pos h]
    have e := cast_err hp id home (a + h.choose)
    by_cases h1 : pieceErr (castC p id home (a + h.choose)) = 0
    · simp only [h1, e.2 h1]
    · simp only [if_neg h1, if_neg (fun hh => h1 (e.1 hh))]
  · rw [dif_neg h, dif_neg h]
theorem castOf_cases (p : PV) (id home : Int) (a : Rat) (x : RQ) : castOf p id home a x = (zeroP, 1) ∨ ∃ q : Rat, (x = RQ.of q ∧ 0 ≤ q) ∧ castOf p id home a x = (castC p id home (a + q), 0) ∧ pieceErr (castC p id home (a + q)) = 0 := by
  unfold castOf
  by_cases h : ∃ q : Rat, x = RQ.of q ∧ 0 ≤ q
  · rw [dif_pos h]
    by_cases h1 : pieceErr (castC p id home (a + h.choose)) = 0
    · exact .inr ⟨h.choose, h.choose_spec, by simp only [h1, if_true], h1⟩
    · exact .inl (by simp only [if_neg h1])
  · rw [dif_neg h]; exact .inl rfl
theorem le_add_self {a q : Rat} (h : 0 ≤ q) : a ≤ a + q := by grind
end
end Go.Ab.N
namespace Go.Ab.N
open Go Go.RowKit Go.Proofs
noncomputable section
set_option maxRecDepth 10000
set_option maxHeartbeats 4000000
open Classical

/-! ### The generator's rims -/
def triL (u v : Int) : List (Int × Int) := [(0, 0), (4 + u, 0), (v, 3)]
theorem tri_ref (u v : Int) (hu : 0 ≤ u ∧ u < 3) (hv : 0 ≤ v ∧ v < 4) : refPoly (rimV (triL u v)) := by
  have hs : ∀ i, i < 3 → ¬ badSide (rimV (triL u v)) i := by
    have e1 : u = 0 ∨ u = 1 ∨ u = 2 := by omega
    have e2 : v = 0 ∨ v = 1 ∨ v = 2 ∨ v = 3 := by omega
    intro i hi
    have e3 : i = 0 ∨ i = 1 ∨ i = 2 := by omega
    unfold badSide
    rcases e1 with rfl | rfl | rfl <;> rcases e2 with rfl | rfl | rfl | rfl <;> rcases e3 with rfl | rfl | rfl <;> decide +kernel
  refine ⟨⟨by show 3 ≤ 3; omega, by show 3 ≤ 12; omega⟩, fun i hi => ⟨hs i hi, fun k hk hg => ?_⟩, ?_⟩
  · have h1 := hg.1; have h2 := hg.2.1
    have hl : (rimV (triL u v)).length = 3 := rfl
    rw [hl] at h1 h2
    omega
  · have e1 : u = 0 ∨ u = 1 ∨ u = 2 := by omega
    have e2 : v = 0 ∨ v = 1 ∨ v = 2 ∨ v = 3 := by omega
    rcases e1 with rfl | rfl | rfl <;> rcases e2 with rfl | rfl | rfl | rfl <;> decide +kernel
/-- Rims whose corners are from 0 to 8. -/
def rimIn (R : List (Int × Int)) : Prop := ∀ c ∈ R, (0 ≤ c.1 ∧ c.1 ≤ 8) ∧ (0 ≤ c.2 ∧ c.2 ≤ 8)
def rimOk (R : List (Int × Int)) : Prop := (3 ≤ R.length ∧ R.length ≤ 5) ∧ rimIn R ∧ refPoly (rimV R)
theorem tri_ok (u v : Int) (hu : 0 ≤ u ∧ u < 3) (hv : 0 ≤ v ∧ v < 4) : rimOk (triL u v) := by
  refine ⟨⟨by show 3 ≤ 3; omega, by show 3 ≤ 5; omega⟩, fun c hc => ?_, tri_ref u v hu hv⟩
  unfold triL at hc
  simp only [List.mem_cons, List.not_mem_nil, or_false] at hc
  rcases hc with rfl | rfl | rfl <;> (simp only; omega)
theorem rimIn_at {R : List (Int × Int)} (h : rimIn R) (i : Nat) : (0 ≤ (R.getD i (0, 0)).1 ∧ (R.getD i (0, 0)).1 ≤ 8) ∧ (0 ≤ (R.getD i (0, 0)).2 ∧ (R.getD i (0, 0)).2 ≤ 8) := by
  rw [List.getD_eq_getElem?_getD]
  cases hx : R[i]? with
  | none => exact ⟨⟨by decide, by decide⟩, ⟨by decide, by decide⟩⟩
  | some c => exact h c (List.mem_of_getElem? hx)
theorem rimIn_pt {R : List (Int × Int)} (h : rimIn R) : ∀ i, i < R.length → ptOk (R.getD i (0, 0)) = true := fun i _ => by
  have := rimIn_at h i
  unfold ptOk wb
  simp only [Bool.and_eq_true, decide_eq_true_eq]
  omega
theorem rimV_small' {R : List (Int × Int)} (h : ∀ i, i < R.length → ptOk (R.getD i (0, 0)) = true) : smallV (rimV R) 1000 :=
  rimV_small ⟨0, 0, R, [], [], zeroQ, zeroQ, zeroQ, zeroQ, zeroQ⟩ h
end
end Go.Ab.N
namespace Go.Ab.N
open Go Go.RowKit Go.Proofs
noncomputable section
set_option maxRecDepth 10000
set_option maxHeartbeats 2000000
open Classical

/-! ### Reference 06: an axis between two segments -/
theorem between_fn (n a b c d : V2) (hn : vb n ≤ vs) (ha : vb a ≤ vs) (hb : vb b ≤ vs) (hc : vb c ≤ vs) (hd : vb d ≤ vs) : Fn Tryz.prog 230 [vA n, vA a, vA b, vA c, vA d] (.bool (betweenF n a b c d)) := by
  unfold vs at hn ha hb hc hd
  have e1 := refpdot_fn n a (by unfold vm; omega) (by unfold vm; omega)
  have e2 := refpdot_fn n b (by unfold vm; omega) (by unfold vm; omega)
  have e3 := refpdot_fn n c (by unfold vm; omega) (by unfold vm; omega)
  have e4 := refpdot_fn n d (by unfold vm; omega) (by unfold vm; omega)
  have q1 := qb_dot n a; have q2 := qb_dot n b; have q3 := qb_dot n c; have q4 := qb_dot n d
  obtain ⟨V, hV⟩ : ∃ V, V = betweenF n a b c d := ⟨_, rfl⟩
  rw [← hV]
  unfold betweenF at hV
  generalize dot n a = p at *
  generalize dot n b = q at *
  generalize dot n c = r at *
  generalize dot n d = s at *
  have k1 := refrcmp_fn p r (by unfold rm; omega) (by unfold rm; omega)
  have k2 := refrcmp_fn p s (by unfold rm; omega) (by unfold rm; omega)
  have k3 := refrcmp_fn q r (by unfold rm; omega) (by unfold rm; omega)
  have k4 := refrcmp_fn q s (by unfold rm; omega) (by unfold rm; omega)
  obtain ⟨LE, hLE⟩ : ∃ LE, LE = lessF p q r s := ⟨_, rfl⟩
  obtain ⟨MO, hMO⟩ : ∃ MO, MO = lessF r s p q := ⟨_, rfl⟩
  rw [← hLE, ← hMO] at hV
  have hl : LE = (decide (qcmp p r < 0) && decide (qcmp p s < 0) && decide (qcmp q r < 0) && decide (qcmp q s < 0)) := by
    rw [hLE]; unfold lessF
    rw [decide_eq_decide.2 (qcmp_lt p r), decide_eq_decide.2 (qcmp_lt p s), decide_eq_decide.2 (qcmp_lt q r), decide_eq_decide.2 (qcmp_lt q s)]
  have hm : MO = (decide (0 < qcmp p r) && decide (0 < qcmp p s) && decide (0 < qcmp q r) && decide (0 < qcmp q s)) := by
    rw [hMO]; unfold lessF
    rw [decide_eq_decide.2 (qcmp_gt p r), decide_eq_decide.2 (qcmp_gt p s), decide_eq_decide.2 (qcmp_gt q r), decide_eq_decide.2 (qcmp_gt q s)]
    cases decide (r < p) <;> cases decide (r < q) <;> cases decide (s < p) <;> cases decide (s < q) <;> rfl
  have five : ∀ (A B C D : Prop) [Decidable A] [Decidable B] [Decidable C] [Decidable D] (X : Bool), X = (decide A && decide B && decide C && decide D) → (X = false ∧ A = False ∧ True ∧ True ∧ True) ∨ (X = false ∧ A = True ∧ B = False ∧ True ∧ True) ∨ (X = false ∧ A = True ∧ B = True ∧ C = False ∧ True) ∨ (X = false ∧ A = True ∧ B = True ∧ C = True ∧ D = False) ∨ (X = true ∧ A = True ∧ B = True ∧ C = True ∧ D = True) := by
    intro A B C D _ _ _ _ X h
    by_cases hA : A
    rotate_left
    · exact .inl ⟨by rw [h, decide_eq_false hA]; rfl, eq_false hA, trivial, trivial, trivial⟩
    by_cases hB : B
    rotate_left
    · exact .inr (.inl ⟨by rw [h, decide_eq_true hA, decide_eq_false hB]; rfl, eq_true hA, eq_false hB, trivial, trivial⟩)
    by_cases hC : C
    rotate_left
    · exact .inr (.inr (.inl ⟨by rw [h, decide_eq_true hA, decide_eq_true hB, decide_eq_false hC]; rfl, eq_true hA, eq_true hB, eq_false hC, trivial⟩))
    by_cases hD : D
    rotate_left
    · exact .inr (.inr (.inr (.inl ⟨by rw [h, decide_eq_true hA, decide_eq_true hB, decide_eq_true hC, decide_eq_false hD]; rfl, eq_true hA, eq_true hB, eq_true hC, eq_false hD⟩)))
    · exact .inr (.inr (.inr (.inr ⟨by rw [h, decide_eq_true hA, decide_eq_true hB, decide_eq_true hC, decide_eq_true hD]; rfl, eq_true hA, eq_true hB, eq_true hC, eq_true hD⟩)))
  have cl := five _ _ _ _ _ hl
  have cm := five _ _ _ _ _ hm
  clear five hl hm hLE hMO q1 q2 q3 q4 hn ha hb hc hd
  have fin : ∀ {s : AS} {v : Bool}, s.get 10 = .bool v → v = (LE || MO) → RetOk (envP Tryz.prog Tryz.f230 [] [] (.bool V)) s := fun h e => ret1E rfl h (settled_bool _) (by rw [e, hV])
  refine Fn.intro (fn := Tryz.f230) Tryz.call230 Tryz.func230 rfl mixed 17 [] [] [] (by kernel_rfl) (Nat.le_of_ble_eq_true rfl) (by simp [settled_vA]) (vc_soundN 1000 ?_)
  simp only [AS.start, ↓wPre, wA, ↓reduceIte, reduceIte, reduceCtorEq, Y1, Y2, Y3, Y4, Y5, Y6, Y7, Y8, Y9, YA, wE]
  refine call_fn e1 rfl ?_
  simp only [↓wPre, wA, ↓reduceIte, reduceIte, reduceCtorEq, Y1, Y2, Y3, Y4, Y5, Y6, Y7, Y8, Y9, YA, wE]
  refine call_fn e2 rfl ?_
  simp only [↓wPre, wA, ↓reduceIte, reduceIte, reduceCtorEq, Y1, Y2, Y3, Y4, Y5, Y6, Y7, Y8, Y9, YA, wE]
  refine call_fn e3 rfl ?_
  simp only [↓wPre, wA, ↓reduceIte, reduceIte, reduceCtorEq, Y1, Y2, Y3, Y4, Y5, Y6, Y7, Y8, Y9, YA, wE]
  refine call_fn e4 rfl ?_
  simp only [↓wPre, wA, ↓reduceIte, reduceIte, reduceCtorEq, Y1, Y2, Y3, Y4, Y5, Y6, Y7, Y8, Y9, YA, wE]
  rcases cl with ⟨hX, l1, l2, l3, l4⟩ | ⟨hX, l1, l2, l3, l4⟩ | ⟨hX, l1, l2, l3, l4⟩ | ⟨hX, l1, l2, l3, l4⟩ | ⟨hX, l1, l2, l3, l4⟩
  all_goals
    refine call_fn k1 rfl ?_
    simp only [l1, l2, l3, l4, ↓wPre, wA, ↓reduceIte, reduceIte, reduceCtorEq, Y1, Y2, Y3, Y4, Y5, Y6, Y7, Y8, Y9, YA, wE]
    try (refine call_fn k2 rfl ?_; simp only [l1, l2, l3, l4, ↓wPre, wA, ↓reduceIte, reduceIte, reduceCtorEq, Y1, Y2, Y3, Y4, Y5, Y6, Y7, Y8, Y9, YA, wE])
    try (refine call_fn k3 rfl ?_; simp only [l1, l2, l3, l4, ↓wPre, wA, ↓reduceIte, reduceIte, reduceCtorEq, Y1, Y2, Y3, Y4, Y5, Y6, Y7, Y8, Y9, YA, wE])
    try (refine call_fn k4 rfl ?_; simp only [l1, l2, l3, l4, ↓wPre, wA, ↓reduceIte, reduceIte, reduceCtorEq, Y1, Y2, Y3, Y4, Y5, Y6, Y7, Y8, Y9, YA, wE])
    rcases cm with ⟨hY, m1, m2, m3, m4⟩ | ⟨hY, m1, m2, m3, m4⟩ | ⟨hY, m1, m2, m3, m4⟩ | ⟨hY, m1, m2, m3, m4⟩ | ⟨hY, m1, m2, m3, m4⟩
    all_goals
      refine call_fn k1 rfl ?_
      simp only [l1, l2, l3, l4, m1, m2, m3, m4, ↓wPre, wA, ↓reduceIte, reduceIte, reduceCtorEq, Y1, Y2, Y3, Y4, Y5, Y6, Y7, Y8, Y9, YA, wE]
      try (refine call_fn k2 rfl ?_; simp only [l1, l2, l3, l4, m1, m2, m3, m4, ↓wPre, wA, ↓reduceIte, reduceIte, reduceCtorEq, Y1, Y2, Y3, Y4, Y5, Y6, Y7, Y8, Y9, YA, wE])
      try (refine call_fn k3 rfl ?_; simp only [l1, l2, l3, l4, m1, m2, m3, m4, ↓wPre, wA, ↓reduceIte, reduceIte, reduceCtorEq, Y1, Y2, Y3, Y4, Y5, Y6, Y7, Y8, Y9, YA, wE])
      try (refine call_fn k4 rfl ?_; simp only [l1, l2, l3, l4, m1, m2, m3, m4, ↓wPre, wA, ↓reduceIte, reduceIte, reduceCtorEq, Y1, Y2, Y3, Y4, Y5, Y6, Y7, Y8, Y9, YA, wE])
      exact fin rfl (by rw [hX, hY]; rfl)
end
end Go.Ab.N
namespace Go.Ab.N
open Go Go.RowKit Go.Proofs
noncomputable section
set_option maxRecDepth 10000
set_option maxHeartbeats 4000000
open Classical

/-! ### Reference 06: Meets -/
theorem meets06_fn (a b c d : V2) (ha : vb a ≤ 10000) (hb : vb b ≤ 10000) (hc : vb c ≤ 10000) (hd : vb d ≤ 10000) : Fn Tryz.prog 184 [vA a, vA b, vA c, vA d] (.bool (decide (refMeets a b c d))) := by
  have m1 := vb_sub b a; have m2 := vb_sub d c; have m3 := vb_sub c a
  have u1 := vb_turned (b.sub a); have u2 := vb_turned (d.sub c)
  have c1 := refpsub_fn b a (by unfold rm; omega) (by unfold rm; omega)
  have c2 := refpsub_fn d c (by unfold rm; omega) (by unfold rm; omega)
  have c5 := refpsub_fn c a (by unfold rm; omega) (by unfold rm; omega)
  have c3 := turned_fn (b.sub a) (by unfold rm; omega)
  have c4 := turned_fn (d.sub c) (by unfold rm; omega)
  have hA : ∀ i, i < 5 → vb (axis a b c d i) ≤ vs := fun i hi => by
    unfold vs
    match i, hi with
    | 0, _ => show vb (b.sub a).turned ≤ _; omega
    | 1, _ => show vb (d.sub c).turned ≤ _; omega
    | 2, _ => show vb (b.sub a) ≤ _; omega
    | 3, _ => show vb (d.sub c) ≤ _; omega
    | 4, _ => show vb (c.sub a) ≤ _; omega
    | i + 5, h => omega
  have kb : ∀ i, i < 5 → Fn Tryz.prog 230 [vA (axis a b c d i), vA a, vA b, vA c, vA d] (.bool (betweenF (axis a b c d i) a b c d)) := fun i hi => between_fn _ a b c d (hA i hi) (by unfold vs; omega) (by unfold vs; omega) (by unfold vs; omega) (by unfold vs; omega)
  obtain ⟨V, hV⟩ : ∃ V, V = decide (refMeets a b c d) := ⟨_, rfl⟩
  rw [← hV]
  unfold refMeets at hV
  replace c1 : Fn Tryz.prog 104 [vA b, vA a] (vA (axis a b c d 2)) := c1
  replace c2 : Fn Tryz.prog 104 [vA d, vA c] (vA (axis a b c d 3)) := c2
  replace c3 : Fn Tryz.prog 229 [vA (axis a b c d 2)] (vA (axis a b c d 0)) := c3
  replace c4 : Fn Tryz.prog 229 [vA (axis a b c d 3)] (vA (axis a b c d 1)) := c4
  replace c5 : Fn Tryz.prog 104 [vA c, vA a] (vA (axis a b c d 4)) := c5
  clear m1 m2 m3 u1 u2 hA ha hb hc hd
  generalize hF : (fun i => betweenF (axis a b c d i) a b c d) = F at *
  have hF' : ∀ i, betweenF (axis a b c d i) a b c d = F i := fun i => by rw [← hF]
  simp only [hF'] at kb hV
  clear hF hF'
  generalize axis a b c d = A at *
  have fin : ∀ {s : AS} {v : Bool}, s.get 8 = .bool v → v = V → RetOk (envP Tryz.prog Tryz.f184 [] [] (.bool V)) s := fun h e => ret1E rfl h (settled_bool _) (by rw [e])
  have hvc : ∀ a : V2, ∀ x ∈ vC a, Settled x := fun a => by simp [vC, settled_ints, settled_bool]
  have brow : ∀ a : V2, belO 4 (.row 0 8 (ofL (vC a))) = True := fun a => eq_true (belO_set (hvc a))
  have bel : Bel 4 (.sl 5 40 (ofL (vC (A 0) ++ (vC (A 1) ++ (vC (A 2) ++ (vC (A 3) ++ vC (A 4)))))) true) = True := eq_true (bel_of_settled (settled_sl fun j hj => settled_cells (fun x hx => by
    simp only [List.mem_append] at hx
    rcases hx with h | h | h | h | h <;> exact hvc _ _ h) j))
  refine Fn.intro (fn := Tryz.f184) Tryz.call184 Tryz.func184 rfl mixed 13 [] [] [] (by kernel_rfl) (Nat.le_of_ble_eq_true rfl) (by simp [settled_ints, settled_I, settled_fn0, settled_intss, settled_bool, settled_nil, settled_zA, settled_qA, settled_vA, settled_zR, settled_ofA, settled_int, settled_pts, settled_bools]) (vc_soundN 1000 ?_); simp (config := { maxSteps := 2000000 }) only [AS.start, ↓wPre, wA, ↓reduceIte, reduceIte, reduceCtorEq, Y1, Y2, Y3, Y4, Y5, Y6, Y7, Y8, Y9, YA, wE]
  refine call_fn c1 rfl ?_
  simp only [↓wPre, wA, ↓reduceIte, reduceIte, reduceCtorEq, Y1, Y2, Y3, Y4, Y5, Y6, Y7, Y8, Y9, YA, wE]
  refine call_fn c2 rfl ?_
  simp only [↓wPre, wA, ↓reduceIte, reduceIte, reduceCtorEq, Y1, Y2, Y3, Y4, Y5, Y6, Y7, Y8, Y9, YA, wE]
  refine call_fn c3 rfl ?_
  simp only [↓wPre, wA, ↓reduceIte, reduceIte, reduceCtorEq, Y1, Y2, Y3, Y4, Y5, Y6, Y7, Y8, Y9, YA, wE]
  refine call_fn c4 rfl ?_
  simp only [↓wPre, wA, ↓reduceIte, reduceIte, reduceCtorEq, Y1, Y2, Y3, Y4, Y5, Y6, Y7, Y8, Y9, YA, wE]
  refine call_fn c5 rfl ?_
  simp only [↓wPre, wA, ↓reduceIte, reduceIte, reduceCtorEq, Y1, Y2, Y3, Y4, Y5, Y6, Y7, Y8, Y9, YA, wE]
  refine run_loop (fun i : Nat => ⟨13, [], [.any, .any, .any, .any, .ref 0 0 0, .ref 1 0 0, .ref 2 0 0, .ref 3 0 0, .bool false, .any, .any, .sl 5 40 (ofL (vC (A 0) ++ (vC (A 1) ++ (vC (A 2) ++ (vC (A 3) ++ vC (A 4)))))) true, I i], [], [.row 0 8 (ofL (vC a)), .row 0 8 (ofL (vC b)), .row 0 8 (ofL (vC c)), .row 0 8 (ofL (vC d))]⟩) (fun i => i ≤ 5 ∧ ∀ j, j < i → F j = false) (fun i => 5 - i) 0 ⟨by omega, by omega⟩
    (sub_cut (m := 4) (Nat.zero_le _) rfl (by simp [vC, ints_def, subL, I]) (by simp [subT]) (by simp [vC, ints_def]) (by simp [wBel, bel]) (by simp [wBel]) (by simp [brow])) ?_
  rintro i ⟨hi, hok⟩ next
  have w0 : IntKind.i64.wrap (0 + 1) = 1 := by decide
  have w1 : IntKind.i64.wrap (1 + 1) = 2 := by decide
  have w2 : IntKind.i64.wrap (2 + 1) = 3 := by decide
  have w3 : IntKind.i64.wrap (3 + 1) = 4 := by decide
  have w4 : IntKind.i64.wrap (4 + 1) = 5 := by decide
  have e0 : ((0 : Nat) : Int) = 0 := rfl
  have e1 : ((1 : Nat) : Int) = 1 := rfl
  have e2 : ((2 : Nat) : Int) = 2 := rfl
  have e3 : ((3 : Nat) : Int) = 3 := rfl
  have e4 : ((4 : Nat) : Int) = 4 := rfl
  have e5 : ((5 : Nat) : Int) = 5 := rfl
  have t1 : (1 : Int).toNat = 1 := rfl
  have t2 : (2 : Int).toNat = 2 := rfl
  have t3 : (3 : Int).toNat = 3 := rfl
  have t4 : (4 : Int).toNat = 4 := rfl
  by_cases hi5 : i < 5
  · have k := kb i hi5
    have hcase : i = 0 ∨ i = 1 ∨ i = 2 ∨ i = 3 ∨ i = 4 := by omega
    by_cases hv : F i = true
    · rw [hv] at k
      have hb : false = V := by
        rw [hV, decide_eq_false]
        intro h
        rw [h i hi5] at hv; cases hv
      rcases hcase with rfl | rfl | rfl | rfl | rfl
      all_goals
        refine vc_soundN 1000 ?_
        simp only [vC, List.cons_append, List.nil_append, e0, e1, e2, e3, e4, e5, t1, t2, t3, t4, w0, w1, w2, w3, w4, Int.reduceLT, Int.reduceLE, Int.toNat_zero, ↓wPre, wA, ↓reduceIte, reduceIte, reduceCtorEq, Y1, Y2, Y3, Y4, Y5, Y6, Y7, Y8, Y9, YA, wE]
        refine call_fn k rfl ?_
        simp only [↓wPre, wA, ↓reduceIte, reduceIte, reduceCtorEq, Y1, Y2, Y3, Y4, Y5, Y6, Y7, Y8, Y9, YA, wE]
        exact fin rfl hb
    rw [Bool.not_eq_true] at hv
    rw [hv] at k
    have nx := next (i + 1)
    rcases hcase with rfl | rfl | rfl | rfl | rfl
    all_goals
      refine vc_soundN 1000 ?_
      simp only [vC, List.cons_append, List.nil_append, e0, e1, e2, e3, e4, e5, t1, t2, t3, t4, w0, w1, w2, w3, w4, Int.reduceLT, Int.reduceLE, Int.toNat_zero, ↓wPre, wA, ↓reduceIte, reduceIte, reduceCtorEq, Y1, Y2, Y3, Y4, Y5, Y6, Y7, Y8, Y9, YA, wE]
      refine call_fn k rfl ?_
      simp only [w0, w1, w2, w3, w4, ↓wPre, wA, ↓reduceIte, reduceIte, reduceCtorEq, Y1, Y2, Y3, Y4, Y5, Y6, Y7, Y8, Y9, YA, wE]
      refine nx _ ⟨by omega, fun j hj => ?_⟩ (by omega) (sub_mk rfl (by simp [vC, ints_def, subL, I]) (by simp [subT]) (by simp [vC, ints_def]))
      rcases Nat.lt_succ_iff_lt_or_eq.1 hj with h | h
      · exact hok j h
      · rw [h]; exact hv
  obtain rfl : i = 5 := by omega
  refine vc_soundN 1000 ?_
  simp only [e5, Int.lt_irrefl, ↓wPre, wA, ↓reduceIte, reduceIte, reduceCtorEq, Y1, Y2, Y3, Y4, Y5, Y6, Y7, Y8, Y9, YA, wE]
  exact fin rfl (by rw [hV, decide_eq_true hok])
theorem numbers06_fn (L : List V2) (k : Nat) (h : smallV L k) (hk : k ≤ 1000) (hl : L.length < 1000000) : Fn Tryz.prog 181 [vecs L] (.bool true) := by
  have rv : ∀ r : Rat, qb r ≤ 1000 → Fn Tryz.prog 83 [qA r] (.bool true) := fun r hr => by
    have h1 := RQ.of_sz r
    have := refrvalid_fn (RQ.of r) (by omega)
    rwa [decide_eq_true ⟨r, rfl⟩] at this
  refine Fn.intro (fn := Tryz.f181) Tryz.call181 Tryz.func181 rfl mixed 4 [] [] [] (by kernel_rfl) (Nat.le_of_ble_eq_true rfl) (by simp [settled_vecs]) (vc_soundN 1000 ?_)
  simp only [AS.start, vecs_def, ↓wPre, wA, ↓reduceIte, reduceIte, reduceCtorEq, Y1, Y2, Y3, Y4, Y5, Y6, Y7, Y8, Y9, YA, wE]
  refine run_loop (fun i : Nat => ⟨4, [], [vecs L, .any, .bool false, I i], [], []⟩) (fun i => i ≤ L.length) (fun i => L.length - i) 0 (by omega)
    (sub_mk rfl (by simp [vecs_def, subL, I]) (by simp [subT]) rfl) ?_
  intro i hi next
  have w1 := wj i (by omega)
  by_cases hi2 : i < L.length
  · have f3 : ((i : Int) < L.length) = True := eq_true (by omega)
    have f4 : (i < L.length) = True := eq_true hi2
    have f5 : (i * 8 + 8 ≤ L.length * 8) = True := eq_true (by omega)
    have f6 : (i * 8 + 4 ≤ L.length * 8) = True := eq_true (by omega)
    have f7 : (i * 8 + 4 + 4 ≤ L.length * 8) = True := eq_true (by omega)
    have v1 := vF L i
    have hx := vb_x (L.getD i v0); have hy := vb_y (L.getD i v0); have hb := h i
    refine vc_soundN 1000 ?_
    simp only [vecs_def, w1, f3, f4, f5, f6, f7, v1, Int.toNat_natCast, ↓wPre, wA, ↓reduceIte, reduceIte, reduceCtorEq, Y1, Y2, Y3, Y4, Y5, Y6, Y7, Y8, Y9, YA, wE]
    refine call_fn (rv (L.getD i v0).x (by omega)) rfl ?_
    simp only [vecs_def, w1, f3, f4, f5, f6, f7, v1, Int.toNat_natCast, ↓wPre, wA, ↓reduceIte, reduceIte, reduceCtorEq, Y1, Y2, Y3, Y4, Y5, Y6, Y7, Y8, Y9, YA, wE]
    refine call_fn (rv (L.getD i v0).y (by omega)) rfl ?_
    simp only [w1, ↓wPre, wA, ↓reduceIte, reduceIte, reduceCtorEq, Y1, Y2, Y3, Y4, Y5, Y6, Y7, Y8, Y9, YA, wE]
    exact next (i + 1) _ (by omega) (by omega) (sub_mk rfl (by simp [vecs_def, subL, I]) (by simp [subT]) rfl)
  obtain rfl : i = L.length := by omega
  refine vc_soundN 1000 ?_
  simp only [vecs_def, Int.lt_irrefl, Nat.lt_irrefl, ↓wPre, wA, ↓reduceIte, reduceIte, reduceCtorEq, Y1, Y2, Y3, Y4, Y5, Y6, Y7, Y8, Y9, YA, wE]
  exact ret1E rfl rfl (settled_bool _) rfl
end
end Go.Ab.N
namespace Go.Ab.N
open Go Go.RowKit Go.Proofs
noncomputable section
set_option maxRecDepth 10000
set_option maxHeartbeats 4000000
open Classical

/-! ### Reference 06: Valid -/
theorem refpvalid_fn (L : List V2) (h : smallV L 1000) (hl : L.length < 1000000) : Fn Tryz.prog 92 [vecs L] (.bool (decide (refPoly L))) := by
  obtain ⟨V, hV⟩ : ∃ V, V = decide (refPoly L) := ⟨_, rfl⟩
  have cn := numbers06_fn L 1000 h (by omega) hl
  rw [← hV]
  have fin : ∀ {s : AS} {v : Bool}, s.get 2 = .bool v → v = V → RetOk (envP Tryz.prog Tryz.f92 [] [] (.bool V)) s := fun h e => ret1E rfl h (settled_bool _) (by rw [e])
  have sm : ∀ i, vb (atF L i) ≤ 1000 := fun i => h (i % L.length)
  refine Fn.intro (fn := Tryz.f92) Tryz.call92 Tryz.func92 rfl mixed 6 [] [] [] (by kernel_rfl) (Nat.le_of_ble_eq_true rfl) (by simp [settled_vecs]) (vc_soundN 1000 ?_)
  by_cases hlo : (L.length : Int) < 3
  · have f1 : ((L.length : Int) < 3) = True := eq_true hlo
    have f1' : (L.length < 3) = True := eq_true (by omega)
    simp only [AS.start, vecs_def, f1, f1', ↓wPre, wA, ↓reduceIte, reduceIte, reduceCtorEq, Y1, Y2, Y3, Y4, Y5, Y6, Y7, Y8, Y9, YA, wE]
    exact fin rfl (by rw [hV, decide_eq_false]; unfold refPoly; omega)
  have f1 : ((L.length : Int) < 3) = False := eq_false hlo
  have f1' : (L.length < 3) = False := eq_false (by omega)
  by_cases hhi : (12 : Int) < L.length
  · have f2 : ((12 : Int) < L.length) = True := eq_true hhi
    have f2' : (12 < L.length) = True := eq_true (by omega)
    simp only [AS.start, vecs_def, f1, f1', f2, f2', ↓wPre, wA, ↓reduceIte, reduceIte, reduceCtorEq, Y1, Y2, Y3, Y4, Y5, Y6, Y7, Y8, Y9, YA, wE]
    exact fin rfl (by rw [hV, decide_eq_false]; unfold refPoly; omega)
  have f2 : ((12 : Int) < L.length) = False := eq_false hhi
  have f2' : (12 < L.length) = False := eq_false (by omega)
  simp only [AS.start, vecs_def, f1, f1', f2, f2', ↓wPre, wA, ↓reduceIte, reduceIte, reduceCtorEq, Y1, Y2, Y3, Y4, Y5, Y6, Y7, Y8, Y9, YA, wE]
  refine call_fn cn rfl ?_
  simp only [f1, f1', f2, f2', ↓wPre, wA, ↓reduceIte, reduceIte, reduceCtorEq, Y1, Y2, Y3, Y4, Y5, Y6, Y7, Y8, Y9, YA, wE]
  have hn0 : L.length ≠ 0 := by omega
  refine run_loop (fun i : Nat => ⟨6, [], [vecs L, .any, .bool false, I i, .any, .any], [], []⟩) (fun i => i ≤ L.length ∧ ∀ j, j < i → goodRef L j) (fun i => L.length - i) 0 ⟨by omega, by omega⟩
    (sub_mk rfl (by simp [vecs_def, subL, I]) (by simp [subT]) rfl) ?_
  rintro i ⟨hi, hgood⟩ next
  have w1 := wj i (by omega)
  have w2 : IntKind.i64.wrap ((i : Int) + 2) = ((i + 2 : Nat) : Int) := by rw [IntKind.wrap_i64]; omega
  by_cases hi2 : i < L.length
  rotate_left
  · obtain rfl : i = L.length := by omega
    refine vc_soundN 1000 ?_
    simp only [vecs_def, Int.lt_irrefl, Nat.lt_irrefl, ↓wPre, wA, ↓reduceIte, reduceIte, reduceCtorEq, Y1, Y2, Y3, Y4, Y5, Y6, Y7, Y8, Y9, YA, wE]
    have ca := refarea_fn L 1000 h (by omega) (by omega)
    have cs := refrsign_fn (areaF L) (by have := (area_qb L 1000 h (by omega) (by omega)).2; unfold rm; omega)
    refine call_fn ca rfl ?_
    simp only [↓wPre, wA, ↓reduceIte, reduceIte, reduceCtorEq, Y1, Y2, Y3, Y4, Y5, Y6, Y7, Y8, Y9, YA, wE]
    refine call_fn cs rfl ?_
    simp only [↓wPre, wA, ↓reduceIte, reduceIte, reduceCtorEq, Y1, Y2, Y3, Y4, Y5, Y6, Y7, Y8, Y9, YA, wE]
    exact fin rfl (by rw [hV, decide_eq_decide]; unfold refPoly; exact ⟨fun h => ⟨by omega, hgood, h⟩, fun h => h.2.2⟩)
  have at_i : ∀ j, j < L.length → atF L j = L.getD j v0 := fun j hj => by unfold atF; rw [Nat.mod_eq_of_lt hj]
  have f3 : ((i : Int) < L.length) = True := eq_true (by omega)
  have f4 : (i < L.length) = True := eq_true hi2
  have f5 : (i * 8 + 8 ≤ L.length * 8) = True := eq_true (by omega)
  have v1 := vF L i
  have cat : ∀ j : Nat, j < 1000000000 → Fn Tryz.prog 183 [vecs L, I j] (vA (atF L j)) := fun j hj => corner_fn L j hl hn0 hj
  have cs := refpside_fn (atF L i) (atF L (i + 1)) (atF L (i + 2)) (by have := sm i; unfold vs; omega) (by have := sm (i + 1); unfold vs; omega) (by have := sm (i + 2); unfold vs; omega)
  refine vc_soundN 1000 ?_
  simp only [vecs_def, w1, w2, f3, f4, f5, v1, Int.toNat_natCast, ↓wPre, wA, ↓reduceIte, reduceIte, reduceCtorEq, Y1, Y2, Y3, Y4, Y5, Y6, Y7, Y8, Y9, YA, wE]
  refine call_fn (cat (i + 1) (by omega)) rfl ?_
  simp only [vecs_def, w1, w2, f3, f4, f5, v1, Int.toNat_natCast, ↓wPre, wA, ↓reduceIte, reduceIte, reduceCtorEq, Y1, Y2, Y3, Y4, Y5, Y6, Y7, Y8, Y9, YA, wE]
  refine call_fn (cat (i + 2) (by omega)) rfl ?_
  simp only [vecs_def, w1, w2, f3, f4, f5, v1, Int.toNat_natCast, ↓wPre, wA, ↓reduceIte, reduceIte, reduceCtorEq, Y1, Y2, Y3, Y4, Y5, Y6, Y7, Y8, Y9, YA, wE]
  have cs' := cs
  rw [at_i i hi2] at cs'
  refine call_fn cs' rfl ?_
  by_cases hs : side (atF L i) (atF L (i + 1)) (atF L (i + 2)) = 0
  · have g5 : (side (L.getD i v0) (atF L (i + 1)) (atF L (i + 2)) = 0) = True := eq_true (by rw [← at_i i hi2]; exact hs)
    simp only [g5, ↓wPre, wA, ↓reduceIte, reduceIte, reduceCtorEq, Y1, Y2, Y3, Y4, Y5, Y6, Y7, Y8, Y9, YA, wE]
    exact fin rfl (by rw [hV, decide_eq_false]; exact fun hp => (hp.2.1 i hi2).1 hs)
  have g5 : (side (L.getD i v0) (atF L (i + 1)) (atF L (i + 2)) = 0) = False := eq_false (by rw [← at_i i hi2]; exact hs)
  simp only [g5, w1, w2, ↓wPre, wA, ↓reduceIte, reduceIte, reduceCtorEq, Y1, Y2, Y3, Y4, Y5, Y6, Y7, Y8, Y9, YA, wE]
  refine run_loop (fun k : Nat => ⟨6, [], [vecs L, .any, .bool false, I i, I k, .any], [], []⟩) (fun k => k ≤ L.length ∧ ∀ j, j < k → ¬ gapBad L i j) (fun k => L.length - k) 0 ⟨by omega, by omega⟩
    (sub_mk rfl (by simp [vecs_def, subL, I]) (by simp [subT]) rfl) ?_
  rintro k ⟨hk, hpair⟩ nextk
  have u1 := wj k (by omega)
  by_cases hk3 : k < L.length
  rotate_left
  · obtain rfl : k = L.length := by omega
    refine vc_soundN 1000 ?_
    simp only [vecs_def, Int.lt_irrefl, Nat.lt_irrefl, w1, ↓wPre, wA, ↓reduceIte, reduceIte, reduceCtorEq, Y1, Y2, Y3, Y4, Y5, Y6, Y7, Y8, Y9, YA, wE]
    refine next (i + 1) _ ⟨by omega, fun j hj => ?_⟩ (by omega) (sub_mk rfl (by simp [vecs_def, subL, I]) (by simp [subT]) rfl)
    by_cases hji : j < i
    · exact hgood j hji
    · obtain rfl : j = i := by omega
      exact ⟨hs, fun q hq => hpair q hq⟩
  have g3 : ((k : Int) < L.length) = True := eq_true (by omega)
  have g4 : (k < L.length) = True := eq_true hk3
  have h5 : (k * 8 + 8 ≤ L.length * 8) = True := eq_true (by omega)
  have v2 := vF L k
  have f6 : ((L.length : Int) = 0) = False := eq_false (by omega)
  have f6' : (L.length = 0) = False := eq_false hn0
  have r1 : IntKind.i64.wrap ((k : Int) - i) = (k : Int) - i := by rw [IntKind.wrap_i64]; omega
  have r2 : IntKind.i64.wrap ((k : Int) - i + L.length) = ((k + L.length - i : Nat) : Int) := by rw [IntKind.wrap_i64]; omega
  have r3 : ((k + L.length - i : Nat) : Int).tmod L.length = (((k + L.length - i) % L.length : Nat) : Int) := rfl
  have r4 : IntKind.i64.wrap ((L.length : Int) - 1) = ((L.length - 1 : Nat) : Int) := by rw [IntKind.wrap_i64]; omega
  obtain ⟨G, hG⟩ : ∃ G, G = (k + L.length - i) % L.length := ⟨_, rfl⟩
  rw [← hG] at r3
  have step : ¬ gapBad L i k → ∀ j, j < k + 1 → ¬ gapBad L i j := fun hb j hj => by
    by_cases hjk : j < k
    · exact hpair j hjk
    · obtain rfl : j = k := by omega
      exact hb
  by_cases q1 : 1 < G
  rotate_left
  · have q2 : (1 < G) = False := eq_false q1
    have q2' : ((1 : Int) < (G : Int)) = False := eq_false (by omega)
    refine vc_soundN 1000 ?_
    simp only [vecs_def, w1, u1, g3, g4, f6, f6', r1, r2, r3, r4, q2, q2', ↓wPre, wA, ↓reduceIte, reduceIte, reduceCtorEq, Y1, Y2, Y3, Y4, Y5, Y6, Y7, Y8, Y9, YA, wE]
    exact nextk (k + 1) _ ⟨by omega, step fun hb => q1 (by rw [hG]; exact hb.1)⟩ (by omega) (sub_mk rfl (by simp [vecs_def, subL, I]) (by simp [subT]) rfl)
  have q2 : (1 < G) = True := eq_true q1
  have q2' : ((1 : Int) < (G : Int)) = True := eq_true (by omega)
  by_cases q3 : G < L.length - 1
  rotate_left
  · have q4 : (G < L.length - 1) = False := eq_false q3
    have q4' : ((G : Int) < ((L.length - 1 : Nat) : Int)) = False := eq_false (by omega)
    refine vc_soundN 1000 ?_
    simp only [vecs_def, w1, u1, g3, g4, f6, f6', r1, r2, r3, r4, q2, q2', q4, q4', ↓wPre, wA, ↓reduceIte, reduceIte, reduceCtorEq, Y1, Y2, Y3, Y4, Y5, Y6, Y7, Y8, Y9, YA, wE]
    exact nextk (k + 1) _ ⟨by omega, step fun hb => q3 (by rw [hG]; exact hb.2.1)⟩ (by omega) (sub_mk rfl (by simp [vecs_def, subL, I]) (by simp [subT]) rfl)
  have q4 : (G < L.length - 1) = True := eq_true q3
  have q4' : ((G : Int) < ((L.length - 1 : Nat) : Int)) = True := eq_true (by omega)
  have cm := meets06_fn (atF L i) (atF L (i + 1)) (atF L k) (atF L (k + 1)) (by have := sm i; omega) (by have := sm (i + 1); omega) (by have := sm k; omega) (by have := sm (k + 1); omega)
  rw [at_i i hi2, at_i k hk3] at cm
  refine vc_soundN 1000 ?_
  simp only [vecs_def, w1, u1, f3, f4, f5, g3, g4, h5, f6, f6', r1, r2, r3, r4, q2, q2', q4, q4', v1, v2, Int.toNat_natCast, ↓wPre, wA, ↓reduceIte, reduceIte, reduceCtorEq, Y1, Y2, Y3, Y4, Y5, Y6, Y7, Y8, Y9, YA, wE]
  refine call_fn (cat (i + 1) (by omega)) rfl ?_
  simp only [vecs_def, w1, u1, f3, f4, f5, g3, g4, h5, f6, f6', r1, r2, r3, r4, q2, q2', q4, q4', v1, v2, Int.toNat_natCast, ↓wPre, wA, ↓reduceIte, reduceIte, reduceCtorEq, Y1, Y2, Y3, Y4, Y5, Y6, Y7, Y8, Y9, YA, wE]
  refine call_fn (cat (k + 1) (by omega)) rfl ?_
  simp only [vecs_def, w1, u1, f3, f4, f5, g3, g4, h5, f6, f6', r1, r2, r3, r4, q2, q2', q4, q4', v1, v2, Int.toNat_natCast, ↓wPre, wA, ↓reduceIte, reduceIte, reduceCtorEq, Y1, Y2, Y3, Y4, Y5, Y6, Y7, Y8, Y9, YA, wE]
  refine call_fn cm rfl ?_
  by_cases hmt : refMeets (L.getD i v0) (atF L (i + 1)) (L.getD k v0) (atF L (k + 1))
  · rw [decide_eq_true hmt]
    simp only [↓wPre, wA, ↓reduceIte, reduceIte, reduceCtorEq, Y1, Y2, Y3, Y4, Y5, Y6, Y7, Y8, Y9, YA, wE]
    exact fin rfl (by rw [hV, decide_eq_false]; exact fun hp => (hp.2.1 i hi2).2 k hk3 ⟨by omega, by omega, by rw [at_i i hi2, at_i k hk3]; exact hmt⟩)
  · rw [decide_eq_false hmt]
    simp only [u1, ↓wPre, wA, ↓reduceIte, reduceIte, reduceCtorEq, Y1, Y2, Y3, Y4, Y5, Y6, Y7, Y8, Y9, YA, wE]
    exact nextk (k + 1) _ ⟨by omega, step fun hb => hmt (by have := hb.2.2; rwa [at_i i hi2, at_i k hk3] at this)⟩ (by omega) (sub_mk rfl (by simp [vecs_def, subL, I]) (by simp [subT]) rfl)
end
end Go.Ab.N
