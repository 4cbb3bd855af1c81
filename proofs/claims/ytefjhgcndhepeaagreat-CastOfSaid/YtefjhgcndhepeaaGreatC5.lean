/- Contracts of functions of these chapters, for every argument that fits, and what they need. -/
import Derived.Test.YtefjhgcndhepeaaGreatC4
set_option linter.unusedSimpArgs false
set_option linter.unusedVariables false
open Nat renaming reducePow → Y1, reduceLT → Y2, reduceLeDiff → Y3, reduceEqDiff → Y4, reduceAdd → Y5, reduceMul → Y6, reduceSub → Y7, reduceBEq → Y8, reduceDiv → Y9, reduceMod → YA
namespace Go.Ab.N
open Go Go.RowKit Go.Proofs
noncomputable section
set_option maxRecDepth 10000
set_option maxHeartbeats 2000000
open Classical

theorem mul_low (a b : Rat) : Int.gcd ((Rat.divInt a.num b.den).num * (Rat.divInt b.num a.den).num) ((Rat.divInt a.num b.den).den * (Rat.divInt b.num a.den).den : Nat) = 1 ∧
    Rat.divInt ((Rat.divInt a.num b.den).num * (Rat.divInt b.num a.den).num) ((Rat.divInt a.num b.den).den * (Rat.divInt b.num a.den).den : Nat) = a * b := by
  have hda : (a.den : Int) ≠ 0 := by have := a.den_nz; omega
  have hdb : (b.den : Int) ≠ 0 := by have := b.den_nz; omega
  obtain ⟨m, m0, m1, m2⟩ := divInt_parts a.num b.den hdb
  obtain ⟨n, n0, n1, n2⟩ := divInt_parts b.num a.den hda
  have hx := (Rat.divInt a.num b.den).reduced
  have hy := (Rat.divInt b.num a.den).reduced
  have exy : Rat.divInt a.num b.den * Rat.divInt b.num a.den = a * b := by
    rw [Rat.divInt_mul_divInt, Rat.mul_def', mkRat_divInt]
    congr 1
    push_cast
    exact Int.mul_comm _ _
  obtain ⟨x, ex⟩ : ∃ x, x = Rat.divInt a.num b.den := ⟨_, rfl⟩
  obtain ⟨y, ey⟩ : ∃ y, y = Rat.divInt b.num a.den := ⟨_, rfl⟩
  rw [← ex] at hx m1 m2 exy ⊢
  rw [← ey] at hy n1 n2 exy ⊢
  have d1 : x.num.natAbs ∣ a.num.natAbs := by rw [m1, Int.natAbs_mul]; exact Nat.dvd_mul_right _ _
  have d2 : x.den ∣ b.den := by
    have : (b.den : Int).natAbs = x.den * m.natAbs := by rw [m2, Int.natAbs_mul, Int.natAbs_natCast]
    rw [Int.natAbs_natCast] at this
    rw [this]; exact Nat.dvd_mul_right _ _
  have d3 : y.num.natAbs ∣ b.num.natAbs := by rw [n1, Int.natAbs_mul]; exact Nat.dvd_mul_right _ _
  have d4 : y.den ∣ a.den := by
    have : (a.den : Int).natAbs = y.den * n.natAbs := by rw [n2, Int.natAbs_mul, Int.natAbs_natCast]
    rw [Int.natAbs_natCast] at this
    rw [this]; exact Nat.dvd_mul_right _ _
  have k1 : Nat.Coprime x.num.natAbs y.den := (a.reduced.coprime_dvd_left d1).coprime_dvd_right d4
  have k2 : Nat.Coprime y.num.natAbs x.den := (b.reduced.coprime_dvd_left d3).coprime_dvd_right d2
  refine ⟨?_, ?_⟩
  · unfold Int.gcd
    rw [Int.natAbs_mul, Int.natAbs_natCast]
    exact (hx.mul_right k1).mul_left (k2.mul_right hy)
  · rw [← exy]
    conv => rhs; rw [← Rat.num_divInt_den x, ← Rat.num_divInt_den y]
    rw [Rat.divInt_mul_divInt]
    push_cast; rfl
theorem rmul_fn (a b : Rat) (ha : qb a ≤ rm) (hb : qb b ≤ rm) : Fn Tryz.prog 56 [qA a, qA b] (qA (a * b)) := by
  unfold rm at ha hb
  have a1 := qb_num a; have a2 := qb_den a; have b1 := qb_num b; have b2 := qb_den b
  obtain ⟨R, hR⟩ : ∃ R, R = qA (a * b) := ⟨_, rfl⟩
  have sR : Settled R := hR ▸ settled_qA _
  have la := qd_lenI a
  have lb := qd_lenI b
  have na := num_lenI a
  have nb := num_lenI b
  have z0 : a = 0 ∨ b = 0 → R = .agg [.bool false, ints [], .bool false, ints []] := by
    intro h
    rw [hR, ← qA_zero]
    rcases h with rfl | rfl
    · rw [Rat.zero_mul]
    · rw [Rat.mul_zero]
  rw [← hR]
  by_cases ha0 : a = 0
  · have g1 : (a = 0) = True := eq_true ha0
    refine Fn.intro (fn := Tryz.f56) Tryz.call56 Tryz.func56 rfl mixed 7 [] [5, 60000002, 60000003] [] (by kernel_rfl) (Nat.le_of_ble_eq_true rfl) (by simp [settled_ints, settled_I, settled_fn0, settled_intss, settled_bool, settled_nil, settled_zA, settled_qA, settled_zR, settled_ofA, settled_int]) (vc_soundN 1000 ?_); simp (config := { maxSteps := 2000000 }) only [AS.start, ↓wPre, wA, ↓reduceIte, reduceIte, reduceCtorEq, Y1, Y2, Y3, Y4, Y5, Y6, Y7, Y8, Y9, YA, zA, qA, qC, wN]
    simp only [la, lb, na, nb, g1, ↓wPre, wA, ↓reduceIte, reduceIte, reduceCtorEq, Y1, Y2, Y3, Y4, Y5, Y6, Y7, Y8, Y9, YA, zA, qA, qC, wN]
    exact retRefE rfl ldk28 rfl rfl rfl (z0 (.inl ha0)) sR ⟨Weak.rfl' _, weak_emp _ _, Weak.rfl' _, weak_emp _ _, trivial⟩
  have g1 : (a = 0) = False := eq_false ha0
  by_cases hb0 : b = 0
  · have g2 : (b = 0) = True := eq_true hb0
    refine Fn.intro (fn := Tryz.f56) Tryz.call56 Tryz.func56 rfl mixed 7 [] [5, 60000002, 60000003] [] (by kernel_rfl) (Nat.le_of_ble_eq_true rfl) (by simp [settled_ints, settled_I, settled_fn0, settled_intss, settled_bool, settled_nil, settled_zA, settled_qA, settled_zR, settled_ofA, settled_int]) (vc_soundN 1000 ?_); simp (config := { maxSteps := 2000000 }) only [AS.start, ↓wPre, wA, ↓reduceIte, reduceIte, reduceCtorEq, Y1, Y2, Y3, Y4, Y5, Y6, Y7, Y8, Y9, YA, zA, qA, qC, wN]
    simp only [la, lb, na, nb, g1, g2, ↓wPre, wA, ↓reduceIte, reduceIte, reduceCtorEq, Y1, Y2, Y3, Y4, Y5, Y6, Y7, Y8, Y9, YA, zA, qA, qC, wN]
    exact retRefE rfl ldk28 rfl rfl rfl (z0 (.inr hb0)) sR ⟨Weak.rfl' _, weak_emp _ _, Weak.rfl' _, weak_emp _ _, trivial⟩
  have g2 : (b = 0) = False := eq_false hb0
  by_cases hi : a.den = 1 ∧ b.den = 1
  · have f1 : (a.den = 1) = True := eq_true hi.1
    have f2 : (b.den = 1) = True := eq_true hi.2
    obtain ⟨e1, e2⟩ := mul_int hi.1 hi.2
    have hR' := hR.trans (qA_int e2)
    rw [e1] at hR'
    refine Fn.intro (fn := Tryz.f56) Tryz.call56 Tryz.func56 rfl mixed 7 [] [5, 60000002, 60000003] [] (by kernel_rfl) (Nat.le_of_ble_eq_true rfl) (by simp [settled_ints, settled_I, settled_fn0, settled_intss, settled_bool, settled_nil, settled_zA, settled_qA, settled_zR, settled_ofA, settled_int]) (vc_soundN 1000 ?_); simp (config := { maxSteps := 2000000 }) only [AS.start, ↓wPre, wA, ↓reduceIte, reduceIte, reduceCtorEq, Y1, Y2, Y3, Y4, Y5, Y6, Y7, Y8, Y9, YA, zA, qA, qC, wN]
    simp only [la, lb, na, nb, g1, g2, f1, f2, ↓wPre, wA, ↓reduceIte, reduceIte, reduceCtorEq, Y1, Y2, Y3, Y4, Y5, Y6, Y7, Y8, Y9, YA, zA, qA, qC, wN]
    refine call_fn (mul_fn a.num b.num (by unfold room; omega) (by unfold room; omega)) rfl ?_
    simp only [↓wPre, wA, ↓reduceIte, reduceIte, reduceCtorEq, Y1, Y2, Y3, Y4, Y5, Y6, Y7, Y8, Y9, YA, zA, qA, qC, wN]
    exact retRefE rfl ldk28 rfl rfl rfl hR' sR ⟨Weak.rfl' _, Weak.rfl' _, Weak.rfl' _, weak_emp _ _, trivial⟩
  obtain ⟨e1, e2⟩ := mul_low a b
  have q1 := qb_divInt a.num b.den 100000000 (by omega) (by omega) (by omega)
  have q2 := qb_divInt b.num a.den 100000000 (by omega) (by omega) (by omega)
  have cA := den_fn a
  have cB := den_fn b
  have c1 := make_fn a.num b.den (by omega) (by omega)
  have c2 := make_fn b.num a.den (by omega) (by omega)
  obtain ⟨x, ex⟩ : ∃ x, x = Rat.divInt a.num b.den := ⟨_, rfl⟩
  obtain ⟨y, ey⟩ : ∃ y, y = Rat.divInt b.num a.den := ⟨_, rfl⟩
  rw [← ex] at c1 q1 e1 e2
  rw [← ey] at c2 q2 e1 e2
  have x1 := qb_num x; have x2 := qb_den x; have y1 := qb_num y; have y2 := qb_den y
  have c3 := mul_fn x.num y.num (by unfold room; omega) (by unfold room; omega)
  have c4 := mul_fn x.den y.den (by unfold room; omega) (by unfold room; omega)
  have hnn : (x.den : Int) * y.den ≠ 0 := Int.mul_ne_zero (by have := x.den_nz; omega) (by have := y.den_nz; omega)
  push_cast at e1 e2
  have c5 := lowest_fn (x.num * y.num) (x.den * y.den) hnn e1
  rw [e2, ← hR] at c5
  have cX := den_fn x
  have cY := den_fn y
  by_cases f : a.den = 1
  · have f1 : (a.den = 1) = True := eq_true f
    have f2 : (b.den = 1) = False := eq_false fun e => hi ⟨f, e⟩
    refine Fn.intro (fn := Tryz.f56) Tryz.call56 Tryz.func56 rfl mixed 7 [] [5, 60000002, 60000003] [] (by kernel_rfl) (Nat.le_of_ble_eq_true rfl) (by simp [settled_ints, settled_I, settled_fn0, settled_intss, settled_bool, settled_nil, settled_zA, settled_qA, settled_zR, settled_ofA, settled_int]) (vc_soundN 1000 ?_); simp (config := { maxSteps := 2000000 }) only [AS.start, ↓wPre, wA, ↓reduceIte, reduceIte, reduceCtorEq, Y1, Y2, Y3, Y4, Y5, Y6, Y7, Y8, Y9, YA, zA, qA, qC, wN]
    simp only [la, lb, na, nb, f1, f2, g1, g2, ↓wPre, wA, ↓reduceIte, reduceIte, reduceCtorEq, Y1, Y2, Y3, Y4, Y5, Y6, Y7, Y8, Y9, YA, zA, qA, qC, wN]
    refine call_fn cB rfl ?_
    simp only [↓wPre, wA, ↓reduceIte, reduceIte, reduceCtorEq, Y1, Y2, Y3, Y4, Y5, Y6, Y7, Y8, Y9, YA, zA, qA, qC, wN]
    refine call_fn c1 rfl ?_
    simp only [↓wPre, wA, ↓reduceIte, reduceIte, reduceCtorEq, Y1, Y2, Y3, Y4, Y5, Y6, Y7, Y8, Y9, YA, zA, qA, qC, wN]
    refine call_fn cA rfl ?_
    simp only [↓wPre, wA, ↓reduceIte, reduceIte, reduceCtorEq, Y1, Y2, Y3, Y4, Y5, Y6, Y7, Y8, Y9, YA, zA, qA, qC, wN]
    refine call_fn c2 rfl ?_
    simp only [↓wPre, wA, ↓reduceIte, reduceIte, reduceCtorEq, Y1, Y2, Y3, Y4, Y5, Y6, Y7, Y8, Y9, YA, zA, qA, qC, wN]
    refine call_fn c3 rfl ?_
    simp only [↓wPre, wA, ↓reduceIte, reduceIte, reduceCtorEq, Y1, Y2, Y3, Y4, Y5, Y6, Y7, Y8, Y9, YA, zA, qA, qC, wN]
    refine call_fn cX rfl ?_
    simp only [↓wPre, wA, ↓reduceIte, reduceIte, reduceCtorEq, Y1, Y2, Y3, Y4, Y5, Y6, Y7, Y8, Y9, YA, zA, qA, qC, wN]
    refine call_fn cY rfl ?_
    simp only [↓wPre, wA, ↓reduceIte, reduceIte, reduceCtorEq, Y1, Y2, Y3, Y4, Y5, Y6, Y7, Y8, Y9, YA, zA, qA, qC, wN]
    refine call_fn c4 rfl ?_
    simp only [↓wPre, wA, ↓reduceIte, reduceIte, reduceCtorEq, Y1, Y2, Y3, Y4, Y5, Y6, Y7, Y8, Y9, YA, zA, qA, qC, wN]
    refine call_fn c5 rfl ?_
    simp only [hR, ↓wPre, wA, ↓reduceIte, reduceIte, reduceCtorEq, Y1, Y2, Y3, Y4, Y5, Y6, Y7, Y8, Y9, YA, zA, qA, qC, wN]
    exact retA rfl ldk28 rfl rfl rfl sR (hR.trans rfl)
  · have f1 : (a.den = 1) = False := eq_false f
    have f2 : True = True := rfl
    refine Fn.intro (fn := Tryz.f56) Tryz.call56 Tryz.func56 rfl mixed 7 [] [5, 60000002, 60000003] [] (by kernel_rfl) (Nat.le_of_ble_eq_true rfl) (by simp [settled_ints, settled_I, settled_fn0, settled_intss, settled_bool, settled_nil, settled_zA, settled_qA, settled_zR, settled_ofA, settled_int]) (vc_soundN 1000 ?_); simp (config := { maxSteps := 2000000 }) only [AS.start, ↓wPre, wA, ↓reduceIte, reduceIte, reduceCtorEq, Y1, Y2, Y3, Y4, Y5, Y6, Y7, Y8, Y9, YA, zA, qA, qC, wN]
    simp only [la, lb, na, nb, f1, f2, g1, g2, ↓wPre, wA, ↓reduceIte, reduceIte, reduceCtorEq, Y1, Y2, Y3, Y4, Y5, Y6, Y7, Y8, Y9, YA, zA, qA, qC, wN]
    refine call_fn cB rfl ?_
    simp only [↓wPre, wA, ↓reduceIte, reduceIte, reduceCtorEq, Y1, Y2, Y3, Y4, Y5, Y6, Y7, Y8, Y9, YA, zA, qA, qC, wN]
    refine call_fn c1 rfl ?_
    simp only [↓wPre, wA, ↓reduceIte, reduceIte, reduceCtorEq, Y1, Y2, Y3, Y4, Y5, Y6, Y7, Y8, Y9, YA, zA, qA, qC, wN]
    refine call_fn cA rfl ?_
    simp only [↓wPre, wA, ↓reduceIte, reduceIte, reduceCtorEq, Y1, Y2, Y3, Y4, Y5, Y6, Y7, Y8, Y9, YA, zA, qA, qC, wN]
    refine call_fn c2 rfl ?_
    simp only [↓wPre, wA, ↓reduceIte, reduceIte, reduceCtorEq, Y1, Y2, Y3, Y4, Y5, Y6, Y7, Y8, Y9, YA, zA, qA, qC, wN]
    refine call_fn c3 rfl ?_
    simp only [↓wPre, wA, ↓reduceIte, reduceIte, reduceCtorEq, Y1, Y2, Y3, Y4, Y5, Y6, Y7, Y8, Y9, YA, zA, qA, qC, wN]
    refine call_fn cX rfl ?_
    simp only [↓wPre, wA, ↓reduceIte, reduceIte, reduceCtorEq, Y1, Y2, Y3, Y4, Y5, Y6, Y7, Y8, Y9, YA, zA, qA, qC, wN]
    refine call_fn cY rfl ?_
    simp only [↓wPre, wA, ↓reduceIte, reduceIte, reduceCtorEq, Y1, Y2, Y3, Y4, Y5, Y6, Y7, Y8, Y9, YA, zA, qA, qC, wN]
    refine call_fn c4 rfl ?_
    simp only [↓wPre, wA, ↓reduceIte, reduceIte, reduceCtorEq, Y1, Y2, Y3, Y4, Y5, Y6, Y7, Y8, Y9, YA, zA, qA, qC, wN]
    refine call_fn c5 rfl ?_
    simp only [hR, ↓wPre, wA, ↓reduceIte, reduceIte, reduceCtorEq, Y1, Y2, Y3, Y4, Y5, Y6, Y7, Y8, Y9, YA, zA, qA, qC, wN]
    exact retA rfl ldk28 rfl rfl rfl sR (hR.trans rfl)
theorem rsub_fn (a b : Rat) (ha : qb a ≤ rm) (hb : qb b ≤ rm) : Fn Tryz.prog 119 [qA a, qA b] (qA (a - b)) := by
  obtain ⟨R, hR⟩ : ∃ R, R = qA (a - b) := ⟨_, rfl⟩
  have sR : Settled R := hR ▸ settled_qA _
  have c := radd_fn a (-b) ha (by rw [qb_neg]; exact hb)
  rw [← Rat.sub_eq_add_neg, ← hR] at c
  rw [← hR]
  refine Fn.intro (fn := Tryz.f119) Tryz.call119 Tryz.func119 rfl mixed 5 [] [] [] (by kernel_rfl) (Nat.le_of_ble_eq_true rfl) (by simp [settled_ints, settled_I, settled_fn0, settled_intss, settled_bool, settled_nil, settled_zA, settled_qA, settled_zR, settled_ofA, settled_int]) (vc_soundN 1000 ?_); simp (config := { maxSteps := 2000000 }) only [AS.start, ↓wPre, wA, ↓reduceIte, reduceIte, reduceCtorEq, Y1, Y2, Y3, Y4, Y5, Y6, Y7, Y8, Y9, YA, zA, qA, qC, wN]
  refine call_fn (rneg_fn b) rfl ?_
  simp only [↓wPre, wA, ↓reduceIte, reduceIte, reduceCtorEq, Y1, Y2, Y3, Y4, Y5, Y6, Y7, Y8, Y9, YA, zA, qA, qC, wN]
  refine call_fn c rfl ?_
  simp only [hR, ↓wPre, wA, ↓reduceIte, reduceIte, reduceCtorEq, Y1, Y2, Y3, Y4, Y5, Y6, Y7, Y8, Y9, YA, zA, qA, qC, wN]
  exact retA rfl ldk28 rfl rfl rfl sR (hR.trans rfl)
/-- How two numbers compare. -/
def qcmp (a b : Rat) : Int := (a.num * b.den - b.num * a.den).sign
theorem sign_den (n : Int) (d : Nat) (h : d ≠ 0) : (n * d).sign = n.sign := by
  rw [Int.sign_mul, Int.sign_eq_one_of_pos (show (0 : Int) < d by omega), Int.mul_one]
theorem qcmp_signs (a b : Rat) (h : a.num.sign ≠ b.num.sign ∨ a.num.sign = 0) : (a.num.sign - b.num.sign).sign = qcmp a b := by
  unfold qcmp
  have h1 := sign_den a.num b.den b.den_nz
  have h2 := sign_den b.num a.den a.den_nz
  generalize a.num * (b.den : Int) = x at *
  generalize b.num * (a.den : Int) = y at *
  rw [← h1, ← h2] at h ⊢
  rcases Int.lt_trichotomy x 0 with hx | hx | hx <;> rcases Int.lt_trichotomy y 0 with hy | hy | hy
  all_goals
    first
      | rw [Int.sign_eq_neg_one_of_neg hx] at h ⊢
      | rw [Int.sign_eq_one_of_pos hx] at h ⊢
      | subst hx
    first
      | rw [Int.sign_eq_neg_one_of_neg hy] at h ⊢
      | rw [Int.sign_eq_one_of_pos hy] at h ⊢
      | subst hy
  all_goals first
    | (exfalso; revert h; decide)
    | rfl
    | (symm; exact Int.sign_eq_neg_one_of_neg (by omega))
    | (symm; exact Int.sign_eq_one_of_pos (by omega))
theorem qcmp_lt (a b : Rat) : qcmp a b < 0 ↔ a < b := by unfold qcmp; rw [Int.sign_neg_iff, Rat.lt_iff]; omega
theorem qcmp_gt (a b : Rat) : 0 < qcmp a b ↔ b < a := by unfold qcmp; rw [Int.sign_pos_iff, Rat.lt_iff]; omega
theorem qcmp_le (a b : Rat) : qcmp a b ≤ 0 ↔ a ≤ b := by rw [← Rat.not_lt, ← qcmp_gt]; omega
theorem qcmp_ge (a b : Rat) : 0 ≤ qcmp a b ↔ b ≤ a := by rw [← Rat.not_lt, ← qcmp_lt]; omega
theorem rcompare_fn (a b : Rat) (ha : qb a ≤ rm) (hb : qb b ≤ rm) : Fn Tryz.prog 68 [qA a, qA b] (I (qcmp a b)) := by
  unfold rm at ha hb
  have a1 := qb_num a; have a2 := qb_den a; have b1 := qb_num b; have b2 := qb_den b
  have m1 := bl_mul a.num b.den
  have m2 := bl_mul b.num a.den
  have i64 : ∀ n : Int, in64 n.sign := fun n => by
    rcases Int.lt_trichotomy n 0 with h | h | h
    · rw [Int.sign_eq_neg_one_of_neg h]; exact ⟨by omega, by omega⟩
    · rw [h]; exact ⟨by decide, by decide⟩
    · rw [Int.sign_eq_one_of_pos h]; exact ⟨by omega, by omega⟩
  have bs : ∀ n : Int, bl n.sign < 1000000000 := fun n => by have := bl_i64 (i64 n); omega
  obtain ⟨V, hV⟩ : ∃ V, V = qcmp a b := ⟨_, rfl⟩
  rw [← hV]
  by_cases h : a.num.sign ≠ b.num.sign ∨ a.num.sign = 0
  · have c0 := icompare_fn a.num.sign b.num.sign (bs _) (bs _)
    rw [qcmp_signs a b h, ← hV] at c0
    by_cases h1 : a.num.sign = b.num.sign
    · have f1 : (a.num.sign = b.num.sign) = True := eq_true h1
      have f2 : (a.num.sign = 0) = True := eq_true (h.resolve_left fun e => e h1)
      have f2' : (b.num.sign = 0) = True := eq_true (h1 ▸ of_eq_true f2)
      refine Fn.intro (fn := Tryz.f68) Tryz.call68 Tryz.func68 rfl mixed 7 [] [] [] (by kernel_rfl) (Nat.le_of_ble_eq_true rfl) (by simp [settled_ints, settled_I, settled_fn0, settled_intss, settled_bool, settled_nil, settled_zA, settled_qA, settled_zR, settled_ofA, settled_int]) (vc_soundN 1000 ?_); simp (config := { maxSteps := 2000000 }) only [AS.start, ↓wPre, wA, ↓reduceIte, reduceIte, reduceCtorEq, Y1, Y2, Y3, Y4, Y5, Y6, Y7, Y8, Y9, YA, zA, qA, qC, wN]
      refine call_fn (rsign_fn a) rfl ?_
      simp only [↓wPre, wA, ↓reduceIte, reduceIte, reduceCtorEq, Y1, Y2, Y3, Y4, Y5, Y6, Y7, Y8, Y9, YA, zA, qA, qC, wN]
      refine call_fn (rsign_fn b) rfl ?_
      simp only [f1, f2, f2', ↓wPre, wA, ↓reduceIte, reduceIte, reduceCtorEq, Y1, Y2, Y3, Y4, Y5, Y6, Y7, Y8, Y9, YA, zA, qA, qC, wN]
      refine call_fn (oof_fn _ (i64 a.num)) rfl ?_
      simp only [↓wPre, wA, ↓reduceIte, reduceIte, reduceCtorEq, Y1, Y2, Y3, Y4, Y5, Y6, Y7, Y8, Y9, YA, zA, qA, qC, wN]
      refine call_fn (oof_fn _ (i64 b.num)) rfl ?_
      simp only [↓wPre, wA, ↓reduceIte, reduceIte, reduceCtorEq, Y1, Y2, Y3, Y4, Y5, Y6, Y7, Y8, Y9, YA, zA, qA, qC, wN]
      refine call_fn c0 rfl ?_
      simp only [↓wPre, wA, ↓reduceIte, reduceIte, reduceCtorEq, Y1, Y2, Y3, Y4, Y5, Y6, Y7, Y8, Y9, YA, zA, qA, qC, wN]
      exact ret1E rfl rfl (settled_I _) rfl
    · have f1 : (a.num.sign = b.num.sign) = False := eq_false h1
      refine Fn.intro (fn := Tryz.f68) Tryz.call68 Tryz.func68 rfl mixed 7 [] [] [] (by kernel_rfl) (Nat.le_of_ble_eq_true rfl) (by simp [settled_ints, settled_I, settled_fn0, settled_intss, settled_bool, settled_nil, settled_zA, settled_qA, settled_zR, settled_ofA, settled_int]) (vc_soundN 1000 ?_); simp (config := { maxSteps := 2000000 }) only [AS.start, ↓wPre, wA, ↓reduceIte, reduceIte, reduceCtorEq, Y1, Y2, Y3, Y4, Y5, Y6, Y7, Y8, Y9, YA, zA, qA, qC, wN]
      refine call_fn (rsign_fn a) rfl ?_
      simp only [↓wPre, wA, ↓reduceIte, reduceIte, reduceCtorEq, Y1, Y2, Y3, Y4, Y5, Y6, Y7, Y8, Y9, YA, zA, qA, qC, wN]
      refine call_fn (rsign_fn b) rfl ?_
      simp only [f1, ↓wPre, wA, ↓reduceIte, reduceIte, reduceCtorEq, Y1, Y2, Y3, Y4, Y5, Y6, Y7, Y8, Y9, YA, zA, qA, qC, wN]
      refine call_fn (oof_fn _ (i64 a.num)) rfl ?_
      simp only [↓wPre, wA, ↓reduceIte, reduceIte, reduceCtorEq, Y1, Y2, Y3, Y4, Y5, Y6, Y7, Y8, Y9, YA, zA, qA, qC, wN]
      refine call_fn (oof_fn _ (i64 b.num)) rfl ?_
      simp only [↓wPre, wA, ↓reduceIte, reduceIte, reduceCtorEq, Y1, Y2, Y3, Y4, Y5, Y6, Y7, Y8, Y9, YA, zA, qA, qC, wN]
      refine call_fn c0 rfl ?_
      simp only [↓wPre, wA, ↓reduceIte, reduceIte, reduceCtorEq, Y1, Y2, Y3, Y4, Y5, Y6, Y7, Y8, Y9, YA, zA, qA, qC, wN]
      exact ret1E rfl rfl (settled_I _) rfl
  · have h1 : a.num.sign = b.num.sign := Classical.byContradiction fun e => h (.inl e)
    have h2 : ¬ a.num.sign = 0 := fun e => h (.inr e)
    have f1 : (a.num.sign = b.num.sign) = True := eq_true h1
    have f2 : (a.num.sign = 0) = False := eq_false h2
    have c0 := icompare_fn (a.num * b.den) (b.num * a.den) (by omega) (by omega)
    rw [show (a.num * b.den - b.num * a.den).sign = V from hV.symm] at c0
    refine Fn.intro (fn := Tryz.f68) Tryz.call68 Tryz.func68 rfl mixed 7 [] [] [] (by kernel_rfl) (Nat.le_of_ble_eq_true rfl) (by simp [settled_ints, settled_I, settled_fn0, settled_intss, settled_bool, settled_nil, settled_zA, settled_qA, settled_zR, settled_ofA, settled_int]) (vc_soundN 1000 ?_); simp (config := { maxSteps := 2000000 }) only [AS.start, ↓wPre, wA, ↓reduceIte, reduceIte, reduceCtorEq, Y1, Y2, Y3, Y4, Y5, Y6, Y7, Y8, Y9, YA, zA, qA, qC, wN]
    refine call_fn (rsign_fn a) rfl ?_
    simp only [↓wPre, wA, ↓reduceIte, reduceIte, reduceCtorEq, Y1, Y2, Y3, Y4, Y5, Y6, Y7, Y8, Y9, YA, zA, qA, qC, wN]
    refine call_fn (rsign_fn b) rfl ?_
    simp only [f1, f2, ↓wPre, wA, ↓reduceIte, reduceIte, reduceCtorEq, Y1, Y2, Y3, Y4, Y5, Y6, Y7, Y8, Y9, YA, zA, qA, qC, wN]
    refine call_fn (den_fn b) rfl ?_
    simp only [↓wPre, wA, ↓reduceIte, reduceIte, reduceCtorEq, Y1, Y2, Y3, Y4, Y5, Y6, Y7, Y8, Y9, YA, zA, qA, qC, wN]
    refine call_fn (mul_fn a.num b.den (by unfold room; omega) (by unfold room; omega)) rfl ?_
    simp only [↓wPre, wA, ↓reduceIte, reduceIte, reduceCtorEq, Y1, Y2, Y3, Y4, Y5, Y6, Y7, Y8, Y9, YA, zA, qA, qC, wN]
    refine call_fn (den_fn a) rfl ?_
    simp only [↓wPre, wA, ↓reduceIte, reduceIte, reduceCtorEq, Y1, Y2, Y3, Y4, Y5, Y6, Y7, Y8, Y9, YA, zA, qA, qC, wN]
    refine call_fn (mul_fn b.num a.den (by unfold room; omega) (by unfold room; omega)) rfl ?_
    simp only [↓wPre, wA, ↓reduceIte, reduceIte, reduceCtorEq, Y1, Y2, Y3, Y4, Y5, Y6, Y7, Y8, Y9, YA, zA, qA, qC, wN]
    refine call_fn c0 rfl ?_
    simp only [↓wPre, wA, ↓reduceIte, reduceIte, reduceCtorEq, Y1, Y2, Y3, Y4, Y5, Y6, Y7, Y8, Y9, YA, zA, qA, qC, wN]
    exact ret1E rfl rfl (settled_I _) rfl
end
end Go.Ab.N
namespace Go.Ab.N
open Go Go.RowKit Go.Proofs
noncomputable section
set_option maxRecDepth 10000
set_option maxHeartbeats 2000000
open Classical

/-! ### Equal lists -/
theorem eqInts_fn (a b : List Int) (la : a.length < 4611686018427387904) (lb : b.length < 4611686018427387904) : Fn Tryz.prog 108 [ints a, ints b] (.bool (decide (a = b))) := by
  obtain ⟨V, hV⟩ : ∃ V, V = decide (a = b) := ⟨_, rfl⟩
  rw [← hV]
  refine Fn.intro (fn := Tryz.f108) Tryz.call108 Tryz.func108 rfl mixed 6 [11, 12, 13] [] [] (by kernel_rfl) (Nat.le_of_ble_eq_true rfl) (by simp [settled_ints]) (vc_soundN 1000 ?_)
  by_cases hl : a.length = b.length
  · have f1 : ((a.length : Int) = b.length) = True := eq_true (by omega)
    have f1' : (a.length = b.length) = True := eq_true hl
    simp only [AS.start, f1, f1', ↓wPre, wA, ↓reduceIte, reduceIte, reduceCtorEq, Y1, Y2, Y3, Y4, Y5, Y6, Y7, Y8, Y9, YA, zA, qA, qC, wN]
    refine run_loop (fun j : Nat => ⟨6, [11, 12, 13], [ints a, ints b, .any, .any, .any, .any], [(11, ints a), (12, I a.length), (13, I j)], []⟩) (fun j => j ≤ a.length ∧ ∀ i, i < j → a.getD i 0 = b.getD i 0) (fun j => a.length - j) 0 ⟨by omega, by omega⟩
      (sub_mk rfl (by simp [subL, ints, sl1, I, hl]) (by simp [subT, look, ints, sl1, I, hl]) rfl) ?_
    rintro j ⟨hj, hno⟩ next
    have w1 := wj j (by omega)
    by_cases hj2 : j < a.length
    · have f2 : ((j : Int) < a.length) = True := eq_true (by omega)
      have f3 : (j < a.length) = True := eq_true hj2
      have f4 : (j < b.length) = True := eq_true (by omega)
      refine vc_soundN 1000 ?_
      simp only [w1, f2, f3, f4, ↓wPre, wA, ↓reduceIte, reduceIte, reduceCtorEq, Y1, Y2, Y3, Y4, Y5, Y6, Y7, Y8, Y9, YA, zA, qA, qC, wN]
      refine ⟨fun h => ret1E (v := .bool false) rfl rfl (settled_bool _) ?_, fun h => next (j + 1) _ ⟨by omega, fun i hi => ?_⟩ (by omega) (sub_mk rfl (by simp [subL, ints, sl1, I]) (by simp [subT, look, ints, sl1, I]) rfl)⟩
      · rw [hV, decide_eq_false fun e => h (by rw [e])]
      · by_cases e : i = j
        · rw [e]; exact h
        · exact hno i (by omega)
    · have f2 : ((j : Int) < a.length) = False := eq_false (by omega)
      have f3 : (j < a.length) = False := eq_false hj2
      refine vc_soundN 1000 ?_
      simp only [w1, f2, f3, ↓wPre, wA, ↓reduceIte, reduceIte, reduceCtorEq, Y1, Y2, Y3, Y4, Y5, Y6, Y7, Y8, Y9, YA, zA, qA, qC, wN]
      refine ret1E (v := .bool true) rfl rfl (settled_bool _) ?_
      rw [hV, decide_eq_true]
      refine List.ext_getElem hl fun i h1 h2 => ?_
      have := hno i (by omega)
      rw [List.getD_eq_getElem?_getD, List.getElem?_eq_getElem h1, List.getD_eq_getElem?_getD, List.getElem?_eq_getElem h2] at this
      exact this
  · have f1 : ((a.length : Int) = b.length) = False := eq_false (by omega)
    have f1' : (a.length = b.length) = False := eq_false hl
    simp only [AS.start, f1, f1', ↓wPre, wA, ↓reduceIte, reduceIte, reduceCtorEq, Y1, Y2, Y3, Y4, Y5, Y6, Y7, Y8, Y9, YA, zA, qA, qC, wN]
    refine ret1E (v := .bool false) rfl rfl (settled_bool _) ?_
    rw [hV, decide_eq_false fun e => hl (by rw [e])]

/-! ### Raw rationals -/
structure RQ where
  pn : Bool
  pd : List Int
  qn : Bool
  qd : List Int
def RQ.L (x : RQ) : List AV := [.bool x.pn, ints x.pd, .bool x.qn, ints x.qd]
def RQ.A (x : RQ) : AV := .agg x.L
theorem settled_RQ (x : RQ) : Settled x.A := settled_agg (by simp [RQ.L, settled_ints, settled_bool])
def RQ.of (r : Rat) : RQ := ⟨decide (r.num < 0), digs r.num.natAbs, false, digs (Ab.N.qd r)⟩
theorem RQ.A_of (r : Rat) : (RQ.of r).A = qA r := rfl
def RQ.sz (x : RQ) : Nat := max x.pd.length x.qd.length
theorem RQ.of_sz (r : Rat) : (RQ.of r).sz ≤ qb r := by
  unfold RQ.sz RQ.of qb
  simp only
  have h1 : bl r.num = (digs r.num.natAbs).length := rfl
  have h2 : (digs (Ab.N.qd r)).length ≤ bl r.den := by
    unfold Ab.N.qd
    by_cases h : r.den = 1
    · rw [if_pos h, digs_zero]; simp
    · rw [if_neg h, bl_nat]; exact Nat.le_refl _
  omega
theorem digs_inj {m n : Nat} (h : digs m = digs n) : m = n := by
  have h1 := digs_val m
  rw [h, digs_val] at h1
  omega
theorem RQ.of_inj {a b : Rat} (h : RQ.of a = RQ.of b) : a = b := by
  unfold RQ.of at h
  injection h with h1 h2 h3 h4
  have h2 := digs_inj h2
  have h4 := digs_inj h4
  refine Rat.ext ?_ ?_
  · have : (a.num < 0) ↔ (b.num < 0) := decide_eq_decide.1 h1
    omega
  · unfold Ab.N.qd at h4
    have := a.den_nz; have := b.den_nz
    split at h4 <;> split at h4 <;> omega
theorem same1_fn (n1 n2 : Bool) (d1 d2 : List Int) (l1 : d1.length < 4611686018427387904) (l2 : d2.length < 4611686018427387904) : Fn Tryz.prog 107 [zR n1 d1, zR n2 d2] (.bool (decide (n1 = n2) && decide (d1 = d2))) := by
  have c := eqInts_fn d1 d2 l1 l2
  obtain ⟨V, hV⟩ : ∃ V, V = (decide (n1 = n2) && decide (d1 = d2)) := ⟨_, rfl⟩
  rw [← hV]
  refine Fn.intro (fn := Tryz.f107) Tryz.call107 Tryz.func107 rfl mixed 5 [] [] [] (by kernel_rfl) (Nat.le_of_ble_eq_true rfl) (by simp [settled_zR]) (vc_soundN 1000 ?_)
  simp only [AS.start, zR, ↓wPre, wA, ↓reduceIte, reduceIte, reduceCtorEq, Y1, Y2, Y3, Y4, Y5, Y6, Y7, Y8, Y9, YA, zA, qA, qC, wN]
  refine guardP_intro (fun h => ?_) (fun h => ret1E (v := .bool false) rfl rfl (settled_bool _) ?_)
  · refine call_fn c rfl ?_
    simp only [↓wPre, wA, ↓reduceIte, reduceIte, reduceCtorEq, Y1, Y2, Y3, Y4, Y5, Y6, Y7, Y8, Y9, YA, zA, qA, qC, wN]
    refine ret1E (v := .bool (decide (d1 = d2))) rfl rfl (settled_bool _) ?_
    rw [hV, decide_eq_true (show n1 = n2 by simpa using h), Bool.true_and]
  · rw [hV, decide_eq_false (show ¬ n1 = n2 by simpa using h), Bool.false_and]
theorem RQ.eq_iff (x y : RQ) : x = y ↔ (x.pn = y.pn ∧ x.pd = y.pd) ∧ x.qn = y.qn ∧ x.qd = y.qd := by
  cases x; cases y; simp [and_assoc]
theorem rsame_fn (x y : RQ) (hx : x.sz < 4611686018427387904) (hy : y.sz < 4611686018427387904) : Fn Tryz.prog 29 [x.A, y.A] (.bool (decide (x = y))) := by
  have c1 := same1_fn x.pn y.pn x.pd y.pd (by unfold RQ.sz at hx; omega) (by unfold RQ.sz at hy; omega)
  have c2 := same1_fn x.qn y.qn x.qd y.qd (by unfold RQ.sz at hx; omega) (by unfold RQ.sz at hy; omega)
  obtain ⟨V, hV⟩ : ∃ V, V = decide (x = y) := ⟨_, rfl⟩
  rw [← hV]
  have e := RQ.eq_iff x y
  obtain ⟨B1, hB1⟩ : ∃ B, B = (decide (x.pn = y.pn) && decide (x.pd = y.pd)) := ⟨_, rfl⟩
  obtain ⟨B2, hB2⟩ : ∃ B, B = (decide (x.qn = y.qn) && decide (x.qd = y.qd)) := ⟨_, rfl⟩
  rw [← hB1] at c1
  rw [← hB2] at c2
  have hVB : V = (B1 && B2) := by
    rw [hV, hB1, hB2]
    simp only [e, Bool.decide_and]
  refine Fn.intro (fn := Tryz.f29) Tryz.call29 Tryz.func29 rfl mixed 6 [] [] [] (by kernel_rfl) (Nat.le_of_ble_eq_true rfl) (by simp [settled_RQ]) (vc_soundN 1000 ?_)
  simp only [AS.start, RQ.A, RQ.L, ↓wPre, wA, ↓reduceIte, reduceIte, reduceCtorEq, Y1, Y2, Y3, Y4, Y5, Y6, Y7, Y8, Y9, YA, zA, qA, qC, wN]
  refine call_fn c1 rfl ?_
  cases B1
  · simp only [↓wPre, wA, ↓reduceIte, reduceIte, reduceCtorEq, Y1, Y2, Y3, Y4, Y5, Y6, Y7, Y8, Y9, YA, zA, qA, qC, wN]
    exact ret1E (v := .bool false) rfl rfl (settled_bool _) (by rw [hVB]; rfl)
  · simp only [↓wPre, wA, ↓reduceIte, reduceIte, reduceCtorEq, Y1, Y2, Y3, Y4, Y5, Y6, Y7, Y8, Y9, YA, zA, qA, qC, wN]
    refine call_fn c2 rfl ?_
    simp only [↓wPre, wA, ↓reduceIte, reduceIte, reduceCtorEq, Y1, Y2, Y3, Y4, Y5, Y6, Y7, Y8, Y9, YA, zA, qA, qC, wN]
    exact ret1E (v := .bool B2) rfl rfl (settled_bool _) (by rw [hVB]; rfl)
theorem rsameQ_fn (a b : Rat) (ha : qb a ≤ rm) (hb : qb b ≤ rm) : Fn Tryz.prog 29 [qA a, qA b] (.bool (decide (a = b))) := by
  unfold rm at ha hb
  have h1 := RQ.of_sz a
  have h2 := RQ.of_sz b
  have := rsame_fn (RQ.of a) (RQ.of b) (by omega) (by omega)
  rw [show decide (RQ.of a = RQ.of b) = decide (a = b) from decide_eq_decide.2 ⟨RQ.of_inj, fun h => by rw [h]⟩] at this
  exact this
/-! ### Which raw numbers are valid -/
def RQ.ok (x : RQ) : Prop := ∃ r : Rat, x = RQ.of r
theorem RQ.ok_iff (x : RQ) (p q : Int) (hp : x.pn = decide (p < 0)) (hpd : x.pd = digs p.natAbs) (hq : x.qn = decide (q < 0)) (hqd : x.qd = digs q.natAbs) : x.ok ↔ ¬ q < 0 ∧ ¬ q = 1 ∧ (q = 0 ∨ Int.gcd p q = 1) := by
  constructor
  · rintro ⟨r, rfl⟩
    unfold RQ.of at hp hpd hq hqd
    simp only at hp hpd hq hqd
    have h1 : r.num.natAbs = p.natAbs := digs_inj hpd
    have h2 := digs_inj hqd
    have h3 : r.num < 0 ↔ p < 0 := decide_eq_decide.1 hp
    have hpr : p = r.num := by omega
    have hq0 : ¬ q < 0 := by simpa using hq.symm
    have hd := r.den_nz
    unfold Ab.N.qd at h2
    by_cases h : r.den = 1
    · rw [if_pos h] at h2
      exact ⟨hq0, by omega, .inl (by omega)⟩
    · rw [if_neg h] at h2
      refine ⟨hq0, by omega, .inr ?_⟩
      have : q = (r.den : Int) := by omega
      rw [hpr, this]
      exact r.reduced
  · rintro ⟨h1, h2, h3⟩
    by_cases h0 : q = 0
    · refine ⟨(p : Rat), ?_⟩
      cases x
      unfold RQ.of Ab.N.qd
      simp only at hp hpd hq hqd
      rw [hp, hpd, hq, hqd, h0]
      simp
      exact decide_eq_decide.2 Iff.rfl
    · have hg := h3.resolve_left h0
      have hn : Nat.Coprime p.natAbs q.natAbs := hg
      refine ⟨⟨p, q.natAbs, by omega, hn⟩, ?_⟩
      cases x
      unfold RQ.of Ab.N.qd
      simp only at hp hpd hq hqd ⊢
      rw [if_neg (by omega), hp, hpd, hq, hqd, decide_eq_false h1]
theorem rvalid_fn (x : RQ) (hx : x.sz < 1000000000) : Fn Tryz.prog 79 [x.A] (.bool (decide x.ok)) := by
  unfold RQ.sz at hx
  obtain ⟨V, hV⟩ : ∃ V, V = decide x.ok := ⟨_, rfl⟩
  have c1 := ivalid_fn x.pn x.pd (by omega)
  have c2 := ivalid_fn x.qn x.qd (by omega)
  have c3 := unit_fn x.qn x.qd
  have bad1 : validZ x.pn x.pd = false → V = false := fun h => by
    rw [hV]
    refine decide_eq_false ?_
    rintro ⟨r, rfl⟩
    have : validZ (RQ.of r).pn (RQ.of r).pd = true := (validZ_iff _ _).2 ⟨r.num, rfl, rfl⟩
    rw [this] at h; cases h
  have bad2 : validZ x.qn x.qd = false → V = false := fun h => by
    rw [hV]
    refine decide_eq_false ?_
    rintro ⟨r, rfl⟩
    have : validZ (RQ.of r).qn (RQ.of r).qd = true := (validZ_iff _ _).2 ⟨(Ab.N.qd r : Int), by unfold RQ.of; simp, by unfold RQ.of; simp⟩
    rw [this] at h; cases h
  have fin : ∀ {s : AS} {v : Bool}, s.get 2 = .bool v → v = V → RetOk (envP Tryz.prog Tryz.f79 [] [] (.bool V)) s := fun h e => ret1E rfl h (settled_bool _) (by rw [e])
  rw [← hV]
  refine Fn.intro (fn := Tryz.f79) Tryz.call79 Tryz.func79 rfl mixed 3 [] [] [] (by kernel_rfl) (Nat.le_of_ble_eq_true rfl) (by simp [settled_RQ]) (vc_soundN 1000 ?_)
  simp only [AS.start, RQ.A, RQ.L, ↓wPre, wA, ↓reduceIte, reduceIte, reduceCtorEq, Y1, Y2, Y3, Y4, Y5, Y6, Y7, Y8, Y9, YA, zA, qA, qC, wN]
  refine call_fn c1 rfl ?_
  by_cases v1 : validZ x.pn x.pd = true
  rotate_left
  · rw [Bool.not_eq_true] at v1
    rw [v1]
    simp only [↓wPre, wA, ↓reduceIte, reduceIte, reduceCtorEq, Y1, Y2, Y3, Y4, Y5, Y6, Y7, Y8, Y9, YA, zA, qA, qC, wN]
    exact fin rfl (bad1 v1).symm
  rw [v1]
  simp only [↓wPre, wA, ↓reduceIte, reduceIte, reduceCtorEq, Y1, Y2, Y3, Y4, Y5, Y6, Y7, Y8, Y9, YA, zA, qA, qC, wN]
  refine call_fn c2 rfl ?_
  by_cases v2 : validZ x.qn x.qd = true
  rotate_left
  · rw [Bool.not_eq_true] at v2
    rw [v2]
    simp only [↓wPre, wA, ↓reduceIte, reduceIte, reduceCtorEq, Y1, Y2, Y3, Y4, Y5, Y6, Y7, Y8, Y9, YA, zA, qA, qC, wN]
    exact fin rfl (bad2 v2).symm
  rw [v2]
  obtain ⟨p, p1, p2⟩ := (validZ_iff _ _).1 v1
  obtain ⟨q, q1, q2⟩ := (validZ_iff _ _).1 v2
  have hok := RQ.ok_iff x p q p1 p2 q1 q2
  have lp : bl p < 1000000000 := by unfold bl; rw [← p2]; omega
  have lq : bl q < 1000000000 := by unfold bl; rw [← q2]; omega
  rw [q1, q2, unit_z] at c3
  have cg := gcd_fn p q lp lq
  have cu := unitz_fn (Int.gcd p q)
  rw [p1, p2, q1, q2]
  have hl : ((digs q.natAbs).length = 0) = (q = 0) := propext (digs_len_zero.trans (by omega))
  have hlN : (digs q.natAbs).length = 0 ↔ q = 0 := digs_len_zero.trans (by omega)
  have hlI : (((digs q.natAbs).length : Int) = 0) = (q = 0) := propext (by omega)
  by_cases h1 : q < 0
  · have f1 : (q < 0) = True := eq_true h1
    simp only [f1, ↓wPre, wA, ↓reduceIte, reduceIte, reduceCtorEq, Y1, Y2, Y3, Y4, Y5, Y6, Y7, Y8, Y9, YA, zA, qA, qC, wN]
    exact fin rfl (by rw [hV, decide_eq_false (by rw [hok]; exact fun h => h.1 h1)])
  have f1 : (q < 0) = False := eq_false h1
  simp only [f1, ↓wPre, wA, ↓reduceIte, reduceIte, reduceCtorEq, Y1, Y2, Y3, Y4, Y5, Y6, Y7, Y8, Y9, YA, zA, qA, qC, wN]
  have c3' := c3
  rw [decide_eq_false h1] at c3'
  refine call_fn c3' rfl ?_
  by_cases h2 : q = 1
  · have f2 : (q = 1) = True := eq_true h2
    simp only [f1, f2, ↓wPre, wA, ↓reduceIte, reduceIte, reduceCtorEq, Y1, Y2, Y3, Y4, Y5, Y6, Y7, Y8, Y9, YA, zA, qA, qC, wN]
    exact fin rfl (by rw [hV, decide_eq_false (by rw [hok]; exact fun h => h.2.1 h2)])
  have f2 : (q = 1) = False := eq_false h2
  by_cases h0 : q = 0
  · have f3 : (q = 0) = True := eq_true h0
    simp only [f1, f2, f3, hl, hlI, ↓wPre, wA, ↓reduceIte, reduceIte, reduceCtorEq, Y1, Y2, Y3, Y4, Y5, Y6, Y7, Y8, Y9, YA, zA, qA, qC, wN]
    exact fin rfl (by rw [hV, decide_eq_true (hok.2 ⟨h1, h2, .inl h0⟩)])
  have f3 : (q = 0) = False := eq_false h0
  simp only [f1, f2, f3, hl, hlI, ↓wPre, wA, ↓reduceIte, reduceIte, reduceCtorEq, Y1, Y2, Y3, Y4, Y5, Y6, Y7, Y8, Y9, YA, zA, qA, qC, wN]
  rw [zA_ge h1] at cg
  refine call_fn cg rfl ?_
  simp only [↓wPre, wA, ↓reduceIte, reduceIte, reduceCtorEq, Y1, Y2, Y3, Y4, Y5, Y6, Y7, Y8, Y9, YA, zA, qA, qC, wN]
  refine call_fn cu rfl ?_
  simp only [↓wPre, wA, ↓reduceIte, reduceIte, reduceCtorEq, Y1, Y2, Y3, Y4, Y5, Y6, Y7, Y8, Y9, YA, zA, qA, qC, wN]
  refine fin rfl ?_
  rw [hV, decide_eq_decide, hok]
  constructor
  · intro h; exact ⟨h1, h2, .inr (by omega)⟩
  · rintro ⟨_, _, h | h⟩
    · exact absurd h h0
    · rw [h]; rfl
end
end Go.Ab.N
namespace Go.Ab.N
open Go Go.RowKit Go.Proofs
noncomputable section
set_option maxRecDepth 10000
set_option maxHeartbeats 2000000
open Classical

/-! ### The reference's integers -/
theorem normal_fn (neg : Bool) (d : List Int) (hl : d.length < 4611686018427387904) : Fn Tryz.prog 168 [.bool neg, ints d] (ofA neg d) := by
  refine Fn.intro (fn := Tryz.f168) Tryz.call168 Tryz.func168 rfl mixed 6 [] [] [] (by kernel_rfl) (Nat.le_of_ble_eq_true rfl) (by simp [settled_ints, settled_I, settled_fn0, settled_intss, settled_bool, settled_nil, settled_zA, settled_qA, settled_zR, settled_ofA, settled_int]) (vc_soundN 1000 ?_); simp (config := { maxSteps := 2000000 }) only [AS.start, ↓wPre, wA, ↓reduceIte, reduceIte, reduceCtorEq, Y1, Y2, Y3, Y4, Y5, Y6, Y7, Y8, Y9, YA, zA, qA, qC, wN]
  refine run_loop (fun n : Nat => ⟨6, [], [.bool neg, ints d, .any, .any, .ref 0 0 0, I n], [], [.row 0 2 (ofL [.bool false, .sl 0 0 (fun _ => .any) true])]⟩) (fun n => n ≤ d.length ∧ trim d d.length = trim d n) (fun n => n) d.length ⟨by omega, rfl⟩
    (sub_mk rfl (by simp [zA, qA, qC, wN, subL, ints, intss, bools, sl1, I]) (by simp [subT]) rfl) ?_
  rintro n ⟨hn, ht⟩ next
  cases n with
  | zero =>
    refine vc_soundN 1000 ?_
    simp only [Int.lt_irrefl, ↓wPre, wA, ↓reduceIte, reduceIte, reduceCtorEq, Y1, Y2, Y3, Y4, Y5, Y6, Y7, Y8, Y9, YA, zA, qA, qC, wN]
    refine retCellP (v := .agg [.bool false, .sl 0 0 (fun _ => .any) false]) rfl (by simp [AS.get, aload, ldk26, rd, cellsFrom, ofL, oif_true]) ?_
    have e : ofA neg d = .agg [.bool false, ints []] := by unfold ofA; rw [ht]; simp [trim]
    rw [e]
    exact sees_agg ⟨sees_of (settled_bool _) rfl, sees_of_weak (settled_ints _) (weak_emp _ _), trivial⟩
  | succ n =>
    have e0 : (0 < ((n + 1 : Nat) : Int)) = True := eq_true (by omega)
    have e1 : (((n + 1 : Nat) : Int) = 0) = False := eq_false (by omega)
    have w1 : IntKind.i64.wrap (((n + 1 : Nat) : Int) - 1) = (n : Int) := by rw [IntKind.wrap_i64]; omega
    have w2 : ((n : Int) < 0) = False := eq_false (by omega)
    have e2 : (n < d.length) = True := eq_true (by omega)
    refine vc_soundN 1000 ?_
    simp only [e0, e1, e2, w1, w2, ↓wPre, wA, ↓reduceIte, reduceIte, reduceCtorEq, Y1, Y2, Y3, Y4, Y5, Y6, Y7, Y8, Y9, YA, zA, qA, qC, wN]
    refine ⟨fun h0 => next n _ ⟨by omega, by rw [ht]; simp only [trim]; rw [if_pos h0]⟩ (by omega) (sub_mk rfl (by simp [zA, qA, qC, wN, subL, ints, intss, bools, sl1, I]) (by simp [subT]) rfl), fun h0 => ⟨by omega, ?_⟩⟩
    have ht2 : trim d d.length = n + 1 := by rw [ht]; simp only [trim]; rw [if_neg h0]
    have e : ofA neg d = .agg [.bool neg, ints (d.take (n + 1))] := by unfold ofA; rw [ht2]; simp
    have hlen : (d.take (n + 1)).length = n + 1 := by rw [List.length_take]; omega
    rw [e]
    refine retRefE rfl ldk26 rfl rfl rfl rfl (settled_agg (by simp [settled_ints, settled_bool])) ⟨Weak.rfl' _, weak_cut _ ?_ ?_ fun j hj => ?_, trivial⟩
    · rw [hlen]; omega
    · rw [hlen]; omega
    · rw [hlen] at hj
      rw [getD_take d 0 j (n + 1) hj]; rfl
theorem normal_z (neg : Bool) (L : List Int) (h : dig L) (hl : L.length < 4611686018427387904) : Fn Tryz.prog 168 [.bool neg, ints L] (zA (sgn neg (val L))) := by
  rw [of_zA h]; exact normal_fn neg L hl
theorem digit_fn (d : List Int) (i : Nat) : Fn Tryz.prog 250 [ints d, I i] (I (dg d i)) := by
  by_cases h : i < d.length
  · have f1 : ((i : Int) < d.length) = True := eq_true (by omega)
    have f2 : (i < d.length) = True := eq_true h
    refine Fn.intro (fn := Tryz.f250) Tryz.call250 Tryz.func250 rfl mixed 5 [] [] [] (by kernel_rfl) (Nat.le_of_ble_eq_true rfl) (by simp [settled_ints, settled_I, settled_fn0, settled_intss, settled_bool, settled_nil, settled_zA, settled_qA, settled_zR, settled_ofA, settled_int]) (vc_soundN 1000 ?_); simp (config := { maxSteps := 2000000 }) only [AS.start, ↓wPre, wA, ↓reduceIte, reduceIte, reduceCtorEq, Y1, Y2, Y3, Y4, Y5, Y6, Y7, Y8, Y9, YA, zA, qA, qC, wN]
    simp only [f1, f2, ↓wPre, wA, ↓reduceIte, reduceIte, reduceCtorEq, Y1, Y2, Y3, Y4, Y5, Y6, Y7, Y8, Y9, YA, zA, qA, qC, wN]
    exact ret1E rfl rfl (settled_I _) rfl
  · have f1 : ((i : Int) < d.length) = False := eq_false (by omega)
    have f2 : (i < d.length) = False := eq_false h
    refine Fn.intro (fn := Tryz.f250) Tryz.call250 Tryz.func250 rfl mixed 5 [] [] [] (by kernel_rfl) (Nat.le_of_ble_eq_true rfl) (by simp [settled_ints, settled_I, settled_fn0, settled_intss, settled_bool, settled_nil, settled_zA, settled_qA, settled_zR, settled_ofA, settled_int]) (vc_soundN 1000 ?_); simp (config := { maxSteps := 2000000 }) only [AS.start, ↓wPre, wA, ↓reduceIte, reduceIte, reduceCtorEq, Y1, Y2, Y3, Y4, Y5, Y6, Y7, Y8, Y9, YA, zA, qA, qC, wN]
    simp only [f1, f2, ↓wPre, wA, ↓reduceIte, reduceIte, reduceCtorEq, Y1, Y2, Y3, Y4, Y5, Y6, Y7, Y8, Y9, YA, zA, qA, qC, wN]
    exact ret1E rfl rfl (settled_I _) (by rw [dg_out (by omega)]; rfl)
theorem compared_fn (a b : List Int) (ha : canon a) (hb : canon b) (la : a.length < 4611686018427387904) : Fn Tryz.prog 220 [ints a, ints b] (I (val a - val b).sign) := by
  obtain ⟨V, hV⟩ : ∃ V, V = (val a - val b).sign := ⟨_, rfl⟩
  rw [← hV]
  have fin : ∀ {s : AS} {v : Int}, s.get 4 = I v → v = V → RetOk (envP Tryz.prog Tryz.f220 [] [] (I V)) s := fun h e => ret1E rfl h (settled_I _) (by rw [e])
  rcases Nat.lt_trichotomy a.length b.length with h | h | h
  · have := canon_lt ha hb h
    have f1 : ((a.length : Int) < b.length) = True := eq_true (by omega)
    have f2 : (a.length < b.length) = True := eq_true h
    refine Fn.intro (fn := Tryz.f220) Tryz.call220 Tryz.func220 rfl mixed 6 [] [] [] (by kernel_rfl) (Nat.le_of_ble_eq_true rfl) (by simp [settled_ints, settled_I, settled_fn0, settled_intss, settled_bool, settled_nil, settled_zA, settled_qA, settled_zR, settled_ofA, settled_int]) (vc_soundN 1000 ?_); simp (config := { maxSteps := 2000000 }) only [AS.start, ↓wPre, wA, ↓reduceIte, reduceIte, reduceCtorEq, Y1, Y2, Y3, Y4, Y5, Y6, Y7, Y8, Y9, YA, zA, qA, qC, wN]
    simp only [f1, f2, ↓wPre, wA, ↓reduceIte, reduceIte, reduceCtorEq, Y1, Y2, Y3, Y4, Y5, Y6, Y7, Y8, Y9, YA, zA, qA, qC, wN]
    exact fin rfl (by rw [hV, Int.sign_eq_neg_one_of_neg (by omega)])
  rotate_left
  · have := canon_lt hb ha h
    have f1 : ((a.length : Int) < b.length) = False := eq_false (by omega)
    have f2 : (a.length < b.length) = False := eq_false (by omega)
    have f3 : ((b.length : Int) < a.length) = True := eq_true (by omega)
    have f4 : (b.length < a.length) = True := eq_true h
    refine Fn.intro (fn := Tryz.f220) Tryz.call220 Tryz.func220 rfl mixed 6 [] [] [] (by kernel_rfl) (Nat.le_of_ble_eq_true rfl) (by simp [settled_ints, settled_I, settled_fn0, settled_intss, settled_bool, settled_nil, settled_zA, settled_qA, settled_zR, settled_ofA, settled_int]) (vc_soundN 1000 ?_); simp (config := { maxSteps := 2000000 }) only [AS.start, ↓wPre, wA, ↓reduceIte, reduceIte, reduceCtorEq, Y1, Y2, Y3, Y4, Y5, Y6, Y7, Y8, Y9, YA, zA, qA, qC, wN]
    simp only [f1, f2, f3, f4, ↓wPre, wA, ↓reduceIte, reduceIte, reduceCtorEq, Y1, Y2, Y3, Y4, Y5, Y6, Y7, Y8, Y9, YA, zA, qA, qC, wN]
    exact fin rfl (by rw [hV, Int.sign_eq_one_of_pos (by omega)])
  have f1 : ((a.length : Int) < b.length) = False := eq_false (by omega)
  have f2 : (a.length < b.length) = False := eq_false (by omega)
  have f3 : ((b.length : Int) < a.length) = False := eq_false (by omega)
  have f4 : (b.length < a.length) = False := eq_false (by omega)
  refine Fn.intro (fn := Tryz.f220) Tryz.call220 Tryz.func220 rfl mixed 6 [] [] [] (by kernel_rfl) (Nat.le_of_ble_eq_true rfl) (by simp [settled_ints, settled_I, settled_fn0, settled_intss, settled_bool, settled_nil, settled_zA, settled_qA, settled_zR, settled_ofA, settled_int]) (vc_soundN 1000 ?_); simp (config := { maxSteps := 2000000 }) only [AS.start, ↓wPre, wA, ↓reduceIte, reduceIte, reduceCtorEq, Y1, Y2, Y3, Y4, Y5, Y6, Y7, Y8, Y9, YA, zA, qA, qC, wN]
  simp only [f1, f2, f3, f4, ↓wPre, wA, ↓reduceIte, reduceIte, reduceCtorEq, Y1, Y2, Y3, Y4, Y5, Y6, Y7, Y8, Y9, YA, zA, qA, qC, wN]
  refine run_loop (fun k : Nat => ⟨6, [], [ints a, ints b, .any, .any, I 0, I ((k : Int) - 1)], [], []⟩) (fun k => k ≤ a.length ∧ a.drop k = b.drop k) (fun k => k) a.length ⟨by omega, by rw [List.drop_length, h, List.drop_length]⟩
    ?_ ?_
  · have w0 : IntKind.i64.wrap ((a.length : Int) - 1) = (a.length : Int) - 1 := by rw [IntKind.wrap_i64]; omega
    rw [w0]
    exact (sub_mk rfl (by simp [zA, qA, qC, wN, subL, ints, intss, bools, sl1, I]) (by simp [subT]) rfl)
  rintro k ⟨hk, he⟩ next
  cases k with
  | zero =>
    refine vc_soundN 1000 ?_
    have e1 : ((0 : Int) ≤ 0 - 1) = False := eq_false (by omega)
    simp only [e1, ↓wPre, wA, ↓reduceIte, reduceIte, reduceCtorEq, Y1, Y2, Y3, Y4, Y5, Y6, Y7, Y8, Y9, YA, zA, qA, qC, wN]
    refine fin rfl ?_
    rw [List.drop_zero, List.drop_zero] at he
    rw [hV, he, Int.sub_self]; rfl
  | succ k =>
    have e1 : ((k + 1 : Nat) : Int) - 1 = (k : Int) := by omega
    have w1 : IntKind.i64.wrap ((k : Int) - 1) = (k : Int) - 1 := by rw [IntKind.wrap_i64]; omega
    have e3 : (k < a.length) = True := eq_true (by omega)
    have e4 : (k < b.length) = True := eq_true (by omega)
    have hcm : a.getD k 0 ≠ b.getD k 0 → (a.getD k 0 - b.getD k 0).sign = V := fun hne => by
      rw [hV, cmp_at ha.1 hb.1 h (by omega) he hne]
    refine vc_soundN 1000 ?_
    simp only [e1, w1, e3, e4, ↓wPre, wA, ↓reduceIte, reduceIte, reduceCtorEq, Y1, Y2, Y3, Y4, Y5, Y6, Y7, Y8, Y9, YA, zA, qA, qC, wN]
    refine ⟨fun h1 => fin rfl ?_, fun h1 => ⟨fun h2 => fin rfl ?_, fun h2 => next k _ ⟨by omega, drop_eq_succ h (by omega) he (by omega)⟩ (by omega) (sub_mk rfl (by simp [zA, qA, qC, wN, subL, ints, intss, bools, sl1, I]) (by simp [subT]) rfl)⟩⟩
    · rw [← hcm (by omega), Int.sign_eq_neg_one_of_neg (by omega)]
    · rw [← hcm (by omega), Int.sign_eq_one_of_pos (by omega)]
end
end Go.Ab.N
namespace Go.Ab.N
open Go Go.RowKit Go.Proofs
noncomputable section
set_option maxRecDepth 10000
set_option maxHeartbeats 2000000
open Classical

theorem rofZ_fn (n : Int) (hn : in64 n) : Fn Tryz.prog 78 [I n] (zA n) := by
  unfold in64 at hn
  obtain ⟨R, hR⟩ : ∃ R, R = zA n := ⟨_, rfl⟩
  have sR : Settled R := hR ▸ settled_zA _
  rw [← hR]
  obtain ⟨neg, hneg⟩ : ∃ neg, neg = decide (n < 0) := ⟨_, rfl⟩
  have en : n = sgn neg n.natAbs := by rw [hneg, sgn_abs]
  refine Fn.intro (fn := Tryz.f78) Tryz.call78 Tryz.func78 rfl mixed 6 [] [] [] (by kernel_rfl) (Nat.le_of_ble_eq_true rfl) (by simp [settled_ints, settled_I, settled_fn0, settled_intss, settled_bool, settled_nil, settled_zA, settled_qA, settled_zR, settled_ofA, settled_int]) (vc_soundN 1000 ?_); simp (config := { maxSteps := 2000000 }) only [AS.start, ↓wPre, wA, ↓reduceIte, reduceIte, reduceCtorEq, Y1, Y2, Y3, Y4, Y5, Y6, Y7, Y8, Y9, YA, zA, qA, qC, wN]
  rw [← hneg]
  refine run_loop (fun p : List Int × Nat => ⟨6, [], [I (sgn neg p.2), .any, .ref 0 0 0, .osl 1 p.1.length 1 0 p.1.length, .bool neg, .any], [], [.row 0 2 (ofL [.bool false, .sl 0 0 (fun _ => .any) true]), .row p.1.length p.1.length (slF I 0 p.1)]⟩)
    (fun p => dig p.1 ∧ val p.1 + pw p.1.length * p.2 = n.natAbs ∧ p.2 ≤ n.natAbs ∧ p.1.length ≤ 3) (fun p => p.2) ([], n.natAbs) ⟨dig_nil, by simp [val, pw], Nat.le_refl _, by simp⟩ ?_ ?_
  · refine (sub_adopt 3 1 (slF I 0 []) rfl).trans (sub_mk rfl ?_ ?_ ?_)
    · simp [AS.put, subL, I, ← en]
    · simp [AS.put, subT]
    · simp [AS.put]
  rintro ⟨l, M⟩ ⟨h1, h2, h3, h4⟩ next
  simp only at h1 h2 h3 h4
  by_cases hM : M = 0
  · subst hM
    have f1 : (sgn neg 0 = 0) = True := eq_true (by unfold sgn; split <;> simp)
    have c := normal_z neg l h1 (by omega)
    rw [show val l = (n.natAbs : Int) by simpa using h2, ← en, ← hR] at c
    refine Run.sub ?_ (sub_freeze 1 3 rfl rfl (by simp))
    refine vc_soundN 1000 ?_
    simp only [f1, ↓wPre, wA, ↓reduceIte, reduceIte, reduceCtorEq, Y1, Y2, Y3, Y4, Y5, Y6, Y7, Y8, Y9, YA, zA, qA, qC, wN]
    refine call_fn c rfl ?_
    simp only [hR, ↓wPre, wA, ↓reduceIte, reduceIte, reduceCtorEq, Y1, Y2, Y3, Y4, Y5, Y6, Y7, Y8, Y9, YA, zA, qA, qC, wN]
    exact retA rfl ldk26 rfl rfl rfl sR (hR.trans rfl)
  · have hl : l.length ≤ 2 := by
      apply Classical.byContradiction
      intro hh
      have q1 := pw_mono (show 3 ≤ l.length by omega)
      have q2 := val_nonneg h1
      have q3 : pw l.length * 1 ≤ pw l.length * M := Int.mul_le_mul_of_nonneg_left (by omega) (by have := pw_pos l.length; omega)
      have q4 : (n.natAbs : Int) ≤ 9223372036854775808 := by omega
      have q5 : pw 3 = 1000000000000000000000000000 := by simp [pw]
      omega
    obtain ⟨m, hm⟩ : ∃ m, m = sgn neg (M : Int) := ⟨_, rfl⟩
    have hma : (neg = true ∧ m = -(M : Int)) ∨ (neg = false ∧ m = (M : Int)) := by rw [hm]; unfold sgn; cases neg <;> simp
    rw [← hm]
    have f1 : (m = 0) = False := eq_false (by omega)
    have hap := appF_I l ((M % 1000000000 : Nat) : Int)
    have e3 : IntKind.i64.wrap (m.tdiv 1000000000) = sgn neg ((M / 1000000000 : Nat) : Int) := by
      unfold sgn
      rcases hma with ⟨e, e2⟩ | ⟨e, e2⟩
      · rw [e, e2, if_pos rfl, Int.neg_tdiv, Int.tdiv_eq_ediv_of_nonneg (by omega), IntKind.wrap_i64]; omega
      · rw [e, e2, if_neg (by simp), Int.tdiv_eq_ediv_of_nonneg (by omega), IntKind.wrap_i64]; omega
    have inv : dig (l ++ [((M % 1000000000 : Nat) : Int)]) ∧ val (l ++ [((M % 1000000000 : Nat) : Int)]) + pw (l ++ [((M % 1000000000 : Nat) : Int)]).length * ((M / 1000000000 : Nat) : Int) = n.natAbs ∧ M / 1000000000 ≤ n.natAbs ∧ (l ++ [((M % 1000000000 : Nat) : Int)]).length ≤ 3 := by
      refine ⟨dig_app.2 ⟨h1, dig_cons.2 ⟨⟨by omega, by omega⟩, dig_nil⟩⟩, ?_, by omega, by simp; omega⟩
      rw [val_snoc]
      simp only [List.length_append, List.length_cons, List.length_nil, Nat.zero_add, pw]
      have e : (M : Int) = ((M % 1000000000 : Nat) : Int) + 1000000000 * ((M / 1000000000 : Nat) : Int) := by omega
      have h2' := h2
      rw [e] at h2'
      rw [Int.mul_add] at h2'
      have e2 : 1000000000 * pw l.length * ((M / 1000000000 : Nat) : Int) = pw l.length * (1000000000 * ((M / 1000000000 : Nat) : Int)) := by
        rw [Int.mul_comm 1000000000 (pw l.length), Int.mul_assoc]
      rw [e2]; omega
    rcases hma with ⟨e1, e2⟩ | ⟨e1, e2⟩
    · have g1 : IntKind.i64.wrap (0 - m.tmod 1000000000) = ((M % 1000000000 : Nat) : Int) := by
        rw [e2, Int.neg_tmod, Int.tmod_eq_emod_of_nonneg (by omega), IntKind.wrap_i64]; omega
      by_cases hz : m.tmod 1000000000 < 0
      · have g2 : (m.tmod 1000000000 < 0) = True := eq_true hz
        refine vc_soundN 1000 ?_
        simp only [f1, g1, g2, e3, hap, Int.reduceEq, ↓wPre, wA, ↓reduceIte, reduceIte, reduceCtorEq, Y1, Y2, Y3, Y4, Y5, Y6, Y7, Y8, Y9, YA, zA, qA, qC, wN]
        exact ⟨⟨by omega, by omega⟩, next (l ++ [((M % 1000000000 : Nat) : Int)], M / 1000000000) _ inv (by simp only; omega) (sub_mk rfl (by simp [subL, I]) (by simp [subT]) (by simp))⟩
      · have g2 : (((M % 1000000000 : Nat) : Int) < 0) = False := eq_false (by omega)
        have g3 : m.tmod 1000000000 = ((M % 1000000000 : Nat) : Int) := by
          rw [e2, Int.neg_tmod, Int.tmod_eq_emod_of_nonneg (by omega)] at hz ⊢; omega
        refine vc_soundN 1000 ?_
        simp only [f1, g2, g3, e3, hap, Int.reduceEq, ↓wPre, wA, ↓reduceIte, reduceIte, reduceCtorEq, Y1, Y2, Y3, Y4, Y5, Y6, Y7, Y8, Y9, YA, zA, qA, qC, wN]
        exact ⟨⟨by omega, by omega⟩, next (l ++ [((M % 1000000000 : Nat) : Int)], M / 1000000000) _ inv (by simp only; omega) (sub_mk rfl (by simp [subL, I]) (by simp [subT]) (by simp))⟩
    · have g3 : m.tmod 1000000000 = ((M % 1000000000 : Nat) : Int) := by
        rw [e2, Int.tmod_eq_emod_of_nonneg (by omega)]; omega
      have g2 : (((M % 1000000000 : Nat) : Int) < 0) = False := eq_false (by omega)
      refine vc_soundN 1000 ?_
      simp only [f1, g2, g3, e3, hap, Int.reduceEq, ↓wPre, wA, ↓reduceIte, reduceIte, reduceCtorEq, Y1, Y2, Y3, Y4, Y5, Y6, Y7, Y8, Y9, YA, zA, qA, qC, wN]
      exact ⟨⟨by omega, by omega⟩, next (l ++ [((M % 1000000000 : Nat) : Int)], M / 1000000000) _ inv (by simp only; omega) (sub_mk rfl (by simp [subL, I]) (by simp [subT]) (by simp))⟩
/-! ### Sums and differences of digits -/
theorem addC_le (a b : Nat → Int) (i : Nat) : 0 ≤ addC a b i ∧ addC a b i ≤ 1 := by have := addC_bit a b i; omega
theorem rplus_fn (a b : List Int) (ha : dig a) (hb : dig b) (la : a.length < 1000000000000) (lb : b.length < 1000000000000) :
    ∃ L, dig L ∧ val L = val a + val b ∧ L.length ≤ max a.length b.length + 1 ∧ Fn Tryz.prog 219 [ints a, ints b] (ints L) := by
  obtain ⟨n, hn⟩ : ∃ n, n = max a.length b.length := ⟨_, rfl⟩
  obtain ⟨e, he⟩ : ∃ e, e = if addC (dg a) (dg b) n = 0 then n else n + 1 := ⟨_, rfl⟩
  have hz : ∀ i, n ≤ i → dg a i = 0 ∧ dg b i = 0 := fun i hi => ⟨dg_out (by omega), dg_out (by omega)⟩
  have hce : addC (dg a) (dg b) e = 0 := by
    rw [he]
    split
    · assumption
    · have h1 := addC_le (dg a) (dg b) n
      obtain ⟨z1, z2⟩ := hz n (Nat.le_refl _)
      simp only [addC, z1, z2]
      rw [if_neg (by omega)]
  have hne : n ≤ e ∧ e ≤ n + 1 := by rw [he]; split <;> omega
  refine ⟨tab (addO (dg a) (dg b)) e, dig_tab fun i _ => addO_dig (dg_dig ha i) (dg_dig hb i), ?_, by rw [tab_len]; omega, ?_⟩
  · have := add_sum (dg a) (dg b) e
    rw [hce, Int.mul_zero, Int.add_zero] at this
    rw [val_tab, this, sm_dg a e (by omega), sm_dg b e (by omega)]
  obtain ⟨R, hR⟩ : ∃ R, R = ints (tab (addO (dg a) (dg b)) e) := ⟨_, rfl⟩
  have sR : Settled R := hR ▸ settled_ints _
  rw [← hR]
  refine Fn.intro (fn := Tryz.f219) Tryz.call219 Tryz.func219 rfl mixed 9 [] [] [] (by kernel_rfl) (Nat.le_of_ble_eq_true rfl) (by simp [settled_ints, settled_I, settled_fn0, settled_intss, settled_bool, settled_nil, settled_zA, settled_qA, settled_zR, settled_ofA, settled_int]) (vc_soundN 1000 ?_); simp (config := { maxSteps := 2000000 }) only [AS.start, ↓wPre, wA, ↓reduceIte, reduceIte, reduceCtorEq, Y1, Y2, Y3, Y4, Y5, Y6, Y7, Y8, Y9, YA, zA, qA, qC, wN]
  refine run_loop (fun i : Nat => ⟨9, [], [ints a, ints b, .any, .any, .any, .osl 0 i 1 0 i, I (addC (dg a) (dg b) i), I i, .any], [], [.row i i (slF I 0 (tab (addO (dg a) (dg b)) i))]⟩)
    (fun i => i ≤ e) (fun i => e - i) 0 (by omega) ((sub_adopt 5 1 (slF I 0 []) rfl).trans (sub_mk rfl (by simp [AS.put, subL, ints, sl1, I, addC]) (by simp [AS.put, subT]) (by simp [AS.put, tab]))) ?_
  intro i hi next
  have cb := addC_le (dg a) (dg b) i
  have w1 := wj i (by omega)
  by_cases hgo : i < e
  · have da := dg_dig ha i
    have db := dg_dig hb i
    unfold digt at da db
    have k1 : IntKind.i64.wrap (dg a i + dg b i) = dg a i + dg b i := by rw [IntKind.wrap_i64]; omega
    have k2 : IntKind.i64.wrap (dg a i + dg b i + addC (dg a) (dg b) i) = dg a i + dg b i + addC (dg a) (dg b) i := by rw [IntKind.wrap_i64]; omega
    have k3 : (dg a i + dg b i + addC (dg a) (dg b) i).tmod 1000000000 = addO (dg a) (dg b) i := by
      rw [Int.tmod_eq_emod_of_nonneg (by omega)]; unfold addO; split <;> omega
    have k4 : IntKind.i64.wrap ((dg a i + dg b i + addC (dg a) (dg b) i).tdiv 1000000000) = addC (dg a) (dg b) (i + 1) := by
      rw [Int.tdiv_eq_ediv_of_nonneg (by omega), IntKind.wrap_i64]; simp only [addC]; split <;> omega
    have hap := appF_I (tab (addO (dg a) (dg b)) i) (addO (dg a) (dg b) i)
    rw [tab_len, ← tab_succ] at hap
    have ca := digit_fn a i
    have cb' := digit_fn b i
    have hcar : n ≤ i → 0 < addC (dg a) (dg b) i := fun h => by
      have : i = n := by omega
      subst this
      have : addC (dg a) (dg b) i ≠ 0 := fun h0 => by rw [if_pos h0] at he; omega
      omega
    have fin : ∀ s' : AS, Sub 0 s' ⟨9, [], [ints a, ints b, .any, .any, .any, .osl 0 (i + 1) 1 0 (i + 1), I (addC (dg a) (dg b) (i + 1)), I ((i + 1 : Nat) : Int), .any], [], [.row (i + 1) (i + 1) (slF I 0 (tab (addO (dg a) (dg b)) (i + 1)))]⟩ → Run _ _ s' := fun s' h => next (i + 1) s' (by omega) (by omega) h
    by_cases h1 : i < a.length
    · have f1 : ((i : Int) < a.length) = True := eq_true (by omega)
      have f1' : (i < a.length) = True := eq_true h1
      refine vc_soundN 1000 ?_
      simp only [f1, f1', w1, ↓wPre, wA, ↓reduceIte, reduceIte, reduceCtorEq, Y1, Y2, Y3, Y4, Y5, Y6, Y7, Y8, Y9, YA, zA, qA, qC, wN]
      refine call_fn ca rfl ?_
      simp only [f1, f1', w1, ↓wPre, wA, ↓reduceIte, reduceIte, reduceCtorEq, Y1, Y2, Y3, Y4, Y5, Y6, Y7, Y8, Y9, YA, zA, qA, qC, wN]
      refine call_fn cb' rfl ?_
      simp only [f1, f1', k1, k2, k3, k4, hap, w1, Int.reduceEq, ↓wPre, wA, ↓reduceIte, reduceIte, reduceCtorEq, Y1, Y2, Y3, Y4, Y5, Y6, Y7, Y8, Y9, YA, zA, qA, qC, wN]
      exact ⟨⟨by omega, by omega⟩, fin _ (sub_mk rfl (by simp [subL, ints, sl1, I]) (by simp [subT]) rfl)⟩
    have f1 : ((i : Int) < a.length) = False := eq_false (by omega)
    have f1' : (i < a.length) = False := eq_false h1
    by_cases h2 : i < b.length
    · have f2 : ((i : Int) < b.length) = True := eq_true (by omega)
      have f2' : (i < b.length) = True := eq_true h2
      refine vc_soundN 1000 ?_
      simp only [f1, f1', f2, f2', w1, ↓wPre, wA, ↓reduceIte, reduceIte, reduceCtorEq, Y1, Y2, Y3, Y4, Y5, Y6, Y7, Y8, Y9, YA, zA, qA, qC, wN]
      refine call_fn ca rfl ?_
      simp only [f1, f1', f2, f2', w1, ↓wPre, wA, ↓reduceIte, reduceIte, reduceCtorEq, Y1, Y2, Y3, Y4, Y5, Y6, Y7, Y8, Y9, YA, zA, qA, qC, wN]
      refine call_fn cb' rfl ?_
      simp only [f1, f1', f2, f2', k1, k2, k3, k4, hap, w1, Int.reduceEq, ↓wPre, wA, ↓reduceIte, reduceIte, reduceCtorEq, Y1, Y2, Y3, Y4, Y5, Y6, Y7, Y8, Y9, YA, zA, qA, qC, wN]
      exact ⟨⟨by omega, by omega⟩, fin _ (sub_mk rfl (by simp [subL, ints, sl1, I]) (by simp [subT]) rfl)⟩
    · have f2 : ((i : Int) < b.length) = False := eq_false (by omega)
      have f2' : (i < b.length) = False := eq_false h2
      have f3 : (0 < addC (dg a) (dg b) i) = True := eq_true (hcar (by omega))
      refine vc_soundN 1000 ?_
      simp only [f1, f1', f2, f2', f3, w1, ↓wPre, wA, ↓reduceIte, reduceIte, reduceCtorEq, Y1, Y2, Y3, Y4, Y5, Y6, Y7, Y8, Y9, YA, zA, qA, qC, wN]
      refine call_fn ca rfl ?_
      simp only [f1, f1', f2, f2', f3, w1, ↓wPre, wA, ↓reduceIte, reduceIte, reduceCtorEq, Y1, Y2, Y3, Y4, Y5, Y6, Y7, Y8, Y9, YA, zA, qA, qC, wN]
      refine call_fn cb' rfl ?_
      simp only [f1, f1', f2, f2', f3, k1, k2, k3, k4, hap, w1, Int.reduceEq, ↓wPre, wA, ↓reduceIte, reduceIte, reduceCtorEq, Y1, Y2, Y3, Y4, Y5, Y6, Y7, Y8, Y9, YA, zA, qA, qC, wN]
      exact ⟨⟨by omega, by omega⟩, fin _ (sub_mk rfl (by simp [subL, ints, sl1, I]) (by simp [subT]) rfl)⟩
  · obtain rfl : i = e := by omega
    have f1 : ((i : Int) < a.length) = False := eq_false (by omega)
    have f1' : (i < a.length) = False := eq_false (by omega)
    have f2 : ((i : Int) < b.length) = False := eq_false (by omega)
    have f2' : (i < b.length) = False := eq_false (by omega)
    refine vc_soundN 1000 ?_
    simp only [f1, f1', f2, f2', hce, Int.lt_irrefl, ↓wPre, wA, ↓reduceIte, reduceIte, reduceCtorEq, Y1, Y2, Y3, Y4, Y5, Y6, Y7, Y8, Y9, YA, zA, qA, qC, wN]
    refine ret1 rfl ?_
    rw [hR]
    exact sees_rowE settled_I rfl rfl (tab_len _ _).symm rfl (Nat.le_of_eq (tab_len _ _))
theorem rminus_fn (a b : List Int) (ha : dig a) (hb : dig b) (la : a.length < 1000000000000) (hl : b.length ≤ a.length) (h : val b ≤ val a) : Fn Tryz.prog 221 [ints a, ints b] (ints (minusF a b)) := by
  obtain ⟨R, hR⟩ : ∃ R, R = ints (minusF a b) := ⟨_, rfl⟩
  have sR : Settled R := hR ▸ settled_ints _
  rw [← hR]
  refine Fn.intro (fn := Tryz.f221) Tryz.call221 Tryz.func221 rfl mixed 9 [] [] [] (by kernel_rfl) (Nat.le_of_ble_eq_true rfl) (by simp [settled_ints, settled_I, settled_fn0, settled_intss, settled_bool, settled_nil, settled_zA, settled_qA, settled_zR, settled_ofA, settled_int]) (vc_soundN 1000 ?_); simp (config := { maxSteps := 2000000 }) only [AS.start, ↓wPre, wA, ↓reduceIte, reduceIte, reduceCtorEq, Y1, Y2, Y3, Y4, Y5, Y6, Y7, Y8, Y9, YA, zA, qA, qC, wN]
  refine run_loop (fun i : Nat => ⟨9, [], [ints a, ints b, .any, .any, .any, .osl 0 i 1 0 i, I (subC (dg a) (dg b) i), I i, .any], [], [.row i i (slF I 0 (tab (subO (dg a) (dg b)) i))]⟩)
    (fun i => i ≤ a.length) (fun i => a.length - i) 0 (by omega) ((sub_adopt 5 1 (slF I 0 []) rfl).trans (sub_mk rfl (by simp [AS.put, subL, ints, sl1, I, subC]) (by simp [AS.put, subT]) (by simp [AS.put, tab]))) ?_
  intro i hi next
  have cb := subC_bit (dg a) (dg b) i
  have w1 := wj i (by omega)
  by_cases hgo : i < a.length
  · have da := dg_dig ha i
    have db := dg_dig hb i
    unfold digt at da db
    have eA : a.getD i 0 = dg a i := rfl
    have f1 : ((i : Int) < a.length) = True := eq_true (by omega)
    have f1' : (i < a.length) = True := eq_true hgo
    have k1 : IntKind.i64.wrap (dg a i - dg b i) = dg a i - dg b i := by rw [IntKind.wrap_i64]; omega
    have k2 : IntKind.i64.wrap (dg a i - dg b i - subC (dg a) (dg b) i) = dg a i - dg b i - subC (dg a) (dg b) i := by rw [IntKind.wrap_i64]; omega
    have hap := appF_I (tab (subO (dg a) (dg b)) i) (subO (dg a) (dg b) i)
    rw [tab_len, ← tab_succ] at hap
    have ca := digit_fn b i
    by_cases hv : dg a i - dg b i - subC (dg a) (dg b) i < 0
    · have f3 : (dg a i - dg b i - subC (dg a) (dg b) i < 0) = True := eq_true hv
      have k3 : IntKind.i64.wrap (dg a i - dg b i - subC (dg a) (dg b) i + 1000000000) = subO (dg a) (dg b) i := by
        unfold subO; rw [if_pos hv, IntKind.wrap_i64]; omega
      have k4 : subC (dg a) (dg b) (i + 1) = 1 := by simp only [subC]; rw [if_pos hv]
      refine vc_soundN 1000 ?_
      simp only [f1, f1', eA, w1, ↓wPre, wA, ↓reduceIte, reduceIte, reduceCtorEq, Y1, Y2, Y3, Y4, Y5, Y6, Y7, Y8, Y9, YA, zA, qA, qC, wN]
      refine call_fn ca rfl ?_
      simp only [k1, k2, k3, f3, hap, w1, ↓wPre, wA, ↓reduceIte, reduceIte, reduceCtorEq, Y1, Y2, Y3, Y4, Y5, Y6, Y7, Y8, Y9, YA, zA, qA, qC, wN]
      exact ⟨⟨by omega, by omega⟩, next (i + 1) _ (by omega) (by omega) (sub_mk rfl (by simp [subL, ints, sl1, I, k4]) (by simp [subT]) rfl)⟩
    · have f3 : (dg a i - dg b i - subC (dg a) (dg b) i < 0) = False := eq_false hv
      have k3 : dg a i - dg b i - subC (dg a) (dg b) i = subO (dg a) (dg b) i := by unfold subO; rw [if_neg hv]
      have k4 : subC (dg a) (dg b) (i + 1) = 0 := by simp only [subC]; rw [if_neg hv]
      have f3' : (subO (dg a) (dg b) i < 0) = False := by rw [← k3]; exact f3
      refine vc_soundN 1000 ?_
      simp only [f1, f1', eA, w1, ↓wPre, wA, ↓reduceIte, reduceIte, reduceCtorEq, Y1, Y2, Y3, Y4, Y5, Y6, Y7, Y8, Y9, YA, zA, qA, qC, wN]
      refine call_fn ca rfl ?_
      simp only [k1, k2.trans k3, f3', hap, w1, ↓wPre, wA, ↓reduceIte, reduceIte, reduceCtorEq, Y1, Y2, Y3, Y4, Y5, Y6, Y7, Y8, Y9, YA, zA, qA, qC, wN]
      exact ⟨⟨by omega, by omega⟩, next (i + 1) _ (by omega) (by omega) (sub_mk rfl (by simp [subL, ints, sl1, I, k4]) (by simp [subT]) rfl)⟩
  · obtain rfl : i = a.length := by omega
    refine vc_soundN 1000 ?_
    simp only [Int.lt_irrefl, Nat.lt_irrefl, ↓wPre, wA, ↓reduceIte, reduceIte, reduceCtorEq, Y1, Y2, Y3, Y4, Y5, Y6, Y7, Y8, Y9, YA, zA, qA, qC, wN]
    refine ret1 rfl ?_
    rw [hR]
    exact sees_rowE settled_I rfl rfl (tab_len _ _).symm rfl (Nat.le_of_eq (tab_len _ _))
end
end Go.Ab.N
namespace Go.Ab.N
open Go Go.RowKit Go.Proofs
noncomputable section
set_option maxRecDepth 10000
set_option maxHeartbeats 2000000
open Classical

def rmulSt (sx sy : Bool) (a b : List Int) (p : List Int × Nat) : AS :=
  ⟨10, [], [.any, .any, .ref 0 0 0, .ref 1 0 0, .ref 2 0 0, .osl 3 0 1 0 (a.length + b.length), I p.2, .any, .any, .any], [],
    [.row 0 2 (ofL [.bool sx, ints a]), .row 0 2 (ofL [.bool sy, ints b]), .row 0 2 (ofL [.bool false, .sl 0 0 (fun _ => .any) true]), .row 0 (a.length + b.length) (slF I 0 p.1)]⟩
def rmulSt2 (sx sy : Bool) (a b : List Int) (i : Nat) (p : List Int × Int × Nat) : AS :=
  ⟨10, [], [.any, .any, .ref 0 0 0, .ref 1 0 0, .ref 2 0 0, .osl 3 0 1 0 (a.length + b.length), I i, I p.2.1, I p.2.2, .any], [],
    [.row 0 2 (ofL [.bool sx, ints a]), .row 0 2 (ofL [.bool sy, ints b]), .row 0 2 (ofL [.bool false, .sl 0 0 (fun _ => .any) true]), .row 0 (a.length + b.length) (slF I 0 p.1)]⟩
theorem rmulz_gen (sx sy : Bool) (a b : List Int) (ha : dig a) (hb : dig b) (la : a.length < room) (lb : b.length < room) :
    Fn Tryz.prog 161 [zR sx a, zR sy b] (zA (sgn (sx != sy) (val a * val b))) := by
  obtain ⟨R, hR⟩ : ∃ R, R = zA (sgn (sx != sy) (val a * val b)) := ⟨_, rfl⟩
  have sR : Settled R := hR ▸ settled_zA _
  unfold room at la lb
  rw [← hR]
  have w0 : IntKind.i64.wrap ((a.length : Int) + b.length) = ((a.length + b.length : Nat) : Int) := by rw [IntKind.wrap_i64]; omega
  refine Fn.intro (fn := Tryz.f161) Tryz.call161 Tryz.func161 rfl mixed 10 [] [] [] (by kernel_rfl) (Nat.le_of_ble_eq_true rfl) (by simp [settled_zR]) (vc_soundN 1000 ?_)
  simp (config := { maxSteps := 2000000 }) only [AS.start, zR, w0, Int.toNat_natCast, ↓wPre, wA, ↓reduceIte, reduceIte, reduceCtorEq, Y1, Y2, Y3, Y4, Y5, Y6, Y7, Y8, Y9, YA, zA, qA, qC, wN]
  refine ⟨⟨by omega, by omega⟩, ?_⟩
  refine run_loop (rmulSt sx sy a b) (mulI a b) (fun p => a.length - p.2) (List.replicate (a.length + b.length) 0, 0) ?_ ?_ ?_
  · refine ⟨Nat.zero_le _, by simp, fun d hd => ?_, fun j _ => ?_, ?_⟩
    · rw [(List.mem_replicate.1 hd).2]; exact ⟨by omega, by omega⟩
    · simp [List.getD_eq_getElem?_getD, List.getElem?_replicate]
      split <;> rfl
    · simp only [List.take_zero]; rw [val_zeros]; simp [val]
  · refine (sub_rowf 3 (a.length + b.length) (slF I 0 (List.replicate (a.length + b.length) 0)) rfl (Nat.le_refl _) ?_).trans (sub_mk rfl ?_ ?_ ?_)
    · intro j hj
      rw [slF_at]
      simp [List.getD_eq_getElem?_getD, List.getElem?_replicate, hj, I]
    · simp [rmulSt, subL, ints, sl1, I]
    · simp [rmulSt, subT]
    · rfl
  rintro ⟨O, i⟩ hO next
  obtain ⟨g1, g2, g3, g4, g5⟩ := id hO
  simp only at g1 g2 g3 g4 g5
  have w1 := wj i (by omega)
  by_cases hi : i < a.length
  · have e1 : ((i : Int) < a.length) = True := eq_true (by omega)
    have e2 : (i < a.length) = True := eq_true hi
    have eA : a.getD i 0 = dg a i := rfl
    refine vc_soundN 1000 ?_
    simp (config := { maxSteps := 2000000 }) only [rmulSt, w1, e1, e2, eA, ↓wPre, wA, ↓reduceIte, reduceIte, reduceCtorEq, Y1, Y2, Y3, Y4, Y5, Y6, Y7, Y8, Y9, YA, zA, qA, qC, wN]
    refine run_loop (rmulSt2 sx sy a b i) (mulJ a b O i) (fun p => b.length - p.2.2) (O, 0, 0) ⟨Nat.zero_le _, g2, g3, ⟨by simp, by simp⟩, g4, by simp [val]⟩ (sub_mk rfl (by simp [rmulSt2, subL, ints, sl1, I]) (by simp [rmulSt2, subT]) (by simp [rmulSt2, ints, sl1])) ?_
    rintro ⟨O', c, k⟩ hJ next2
    obtain ⟨j1, j2, j3, j4, j5, j6⟩ := id hJ
    simp only at j1 j2 j3 j4 j5 j6
    have w2 := wj k (by omega)
    by_cases hk : k < b.length
    · obtain ⟨v0, v1, hst⟩ := mulJ_step (a := a) (b := b) (O := O) (i := i) (O' := O') (c := c) (k := k) ha hb hi hk hJ rfl
      have o1 := dig_at j3 (i + k)
      have m1 := digt_mul (dg_dig ha i) (dg_dig hb k)
      have eB : b.getD k 0 = dg b k := rfl
      have f1 : ((k : Int) < b.length) = True := eq_true (by omega)
      have f2 : (k < b.length) = True := eq_true hk
      have f3 : IntKind.i64.wrap ((i : Int) + k) = ((i + k : Nat) : Int) := by rw [IntKind.wrap_i64]; omega
      have f4 : (i + k < a.length + b.length) = True := eq_true (by omega)
      have f5 : (i + k + 1 ≤ a.length + b.length) = True := eq_true (by omega)
      unfold digt at o1 j4
      have hU : ∀ x : Int, upd (slF I 0 O') (i + k) (.int .i64 x) = slF I 0 (O'.set (i + k) x) := fun x => upd_I _ _ _ (by omega)
      have q1 : IntKind.i64.wrap (dg a i * dg b k) = dg a i * dg b k := by rw [IntKind.wrap_i64]; omega
      have q2 : IntKind.i64.wrap (O'.getD (i + k) 0 + dg a i * dg b k) = O'.getD (i + k) 0 + dg a i * dg b k := by rw [IntKind.wrap_i64]; omega
      generalize hv : O'.getD (i + k) 0 + dg a i * dg b k + c = v at *
      have q3 : IntKind.i64.wrap v = v := by rw [IntKind.wrap_i64]; omega
      have q4 : v.tmod 1000000000 = v - v / 1000000000 * 1000000000 := by rw [Int.tmod_eq_emod_of_nonneg v0]; omega
      have q5 : IntKind.i64.wrap (v.tdiv 1000000000) = v / 1000000000 := by rw [Int.tdiv_eq_ediv_of_nonneg v0, IntKind.wrap_i64]; omega
      refine vc_soundN 1000 ?_
      simp (config := { maxSteps := 2000000 }) only [rmulSt2, w2, e2, eA, eB, f1, f2, f3, f4, f5, q1, q2, hv, q3, q4, q5, hU, Int.toNat_natCast, Int.reduceEq, ↓wPre, wA, ↓reduceIte, reduceIte, reduceCtorEq, Y1, Y2, Y3, Y4, Y5, Y6, Y7, Y8, Y9, YA, zA, qA, qC, wN]
      exact next2 _ _ hst (by simp only; omega) (sub_mk rfl (by simp [rmulSt2, subL, ints, sl1, I]) (by simp [rmulSt2, subT]) rfl)
    · obtain rfl : k = b.length := by omega
      have hst := mulI_step (a := a) (b := b) (O := O) (i := i) (O' := O') (c := c) hi hO hJ
      have f3 : IntKind.i64.wrap ((i : Int) + b.length) = ((i + b.length : Nat) : Int) := by rw [IntKind.wrap_i64]; omega
      have f4 : (i + b.length < a.length + b.length) = True := eq_true (by omega)
      have f5 : (i + b.length + 1 ≤ a.length + b.length) = True := eq_true (by omega)
      have hU : ∀ x : Int, upd (slF I 0 O') (i + b.length) (.int .i64 x) = slF I 0 (O'.set (i + b.length) x) := fun x => upd_I _ _ _ (by omega)
      refine vc_soundN 1000 ?_
      simp (config := { maxSteps := 2000000 }) only [rmulSt2, w1, e1, e2, f3, f4, f5, hU, Int.lt_irrefl, Nat.lt_irrefl, Int.toNat_natCast, ↓wPre, wA, ↓reduceIte, reduceIte, reduceCtorEq, Y1, Y2, Y3, Y4, Y5, Y6, Y7, Y8, Y9, YA, zA, qA, qC, wN]
      exact next _ _ hst (by simp only; omega) (sub_mk rfl (by simp [rmulSt, subL, ints, sl1, I]) (by simp [rmulSt, subT]) rfl)
  · obtain rfl : i = a.length := by omega
    have hval : val O = val a * val b := by rw [g5, List.take_length]
    have c := normal_z (sx != sy) O g3 (by omega)
    rw [hval, ← hR] at c
    have e5 : (!(sx == sy)) = (sx != sy) := by cases sx <;> cases sy <;> rfl
    have hfr := sub_freeze (m := 0) (s := rmulSt sx sy a b (O, a.length)) 3 5 (ver := 0) (l := O) (by show some _ = some _; rw [g2]) (by show AV.osl 3 0 1 0 _ = _; rw [g2]) (by simp [rmulSt])
    refine Run.sub ?_ hfr
    refine vc_soundN 1000 ?_
    simp (config := { maxSteps := 2000000 }) only [rmulSt, Int.lt_irrefl, Nat.lt_irrefl, e5, ↓wPre, wA, ↓reduceIte, reduceIte, reduceCtorEq, Y1, Y2, Y3, Y4, Y5, Y6, Y7, Y8, Y9, YA, zA, qA, qC, wN]
    refine call_fn c rfl ?_
    simp only [hR, ↓wPre, wA, ↓reduceIte, reduceIte, reduceCtorEq, Y1, Y2, Y3, Y4, Y5, Y6, Y7, Y8, Y9, YA, zA, qA, qC, wN]
    exact retA rfl ldk26 rfl rfl rfl sR (hR.trans rfl)
theorem rmulz_fn (x y : Int) (hx : bl x < room) (hy : bl y < room) : Fn Tryz.prog 161 [zA x, zA y] (zA (x * y)) := by
  have h := rmulz_gen (decide (x < 0)) (decide (y < 0)) _ _ (digs_dig x.natAbs) (digs_dig y.natAbs) hx hy
  have e : sgn (decide (x < 0) != decide (y < 0)) (val (digs x.natAbs) * val (digs y.natAbs)) = x * y := by
    rw [digs_val, digs_val]
    have hx' := sgn_abs x
    have hy' := sgn_abs y
    conv => rhs; rw [← hx', ← hy']
    generalize (x.natAbs : Int) = p
    generalize (y.natAbs : Int) = q
    unfold sgn
    by_cases h1 : x < 0 <;> by_cases h2 : y < 0 <;> simp [h1, h2, Int.neg_mul, Int.mul_neg]
  rw [e] at h
  exact h
theorem val_two {d : List Int} (h : d.length ≤ 2) : dg d 1 * 1000000000 + dg d 0 = val d := by
  match d, h with
  | [], _ => rfl
  | [x], _ => simp [dg, val]
  | [x, y], _ => simp [dg, val]; try omega
  | _ :: _ :: _ :: _, h => simp at h
theorem tiny_fn (d : List Int) (h : dig d) (hl : d.length ≤ 2) : Fn Tryz.prog 222 [ints d] (I (val d)) := by
  have d0 := dg_dig h 0
  have d1 := dg_dig h 1
  unfold digt at d0 d1
  have w1 : IntKind.i64.wrap (dg d 1 * 1000000000) = dg d 1 * 1000000000 := by rw [IntKind.wrap_i64]; omega
  have w2 : IntKind.i64.wrap (dg d 1 * 1000000000 + dg d 0) = val d := by rw [← val_two hl, IntKind.wrap_i64]; omega
  refine Fn.intro (fn := Tryz.f222) Tryz.call222 Tryz.func222 rfl mixed 3 [] [] [] (by kernel_rfl) (Nat.le_of_ble_eq_true rfl) (by simp [settled_ints, settled_I, settled_fn0, settled_intss, settled_bool, settled_nil, settled_zA, settled_qA, settled_zR, settled_ofA, settled_int]) (vc_soundN 1000 ?_); simp (config := { maxSteps := 2000000 }) only [AS.start, ↓wPre, wA, ↓reduceIte, reduceIte, reduceCtorEq, Y1, Y2, Y3, Y4, Y5, Y6, Y7, Y8, Y9, YA, zA, qA, qC, wN]
  refine call_fn (digit_fn d 1) rfl ?_
  simp only [w1, ↓wPre, wA, ↓reduceIte, reduceIte, reduceCtorEq, Y1, Y2, Y3, Y4, Y5, Y6, Y7, Y8, Y9, YA, zA, qA, qC, wN]
  refine call_fn (digit_fn d 0) rfl ?_
  simp only [w1, w2, ↓wPre, wA, ↓reduceIte, reduceIte, reduceCtorEq, Y1, Y2, Y3, Y4, Y5, Y6, Y7, Y8, Y9, YA, zA, qA, qC, wN]
  exact ret1E rfl rfl (settled_I _) rfl
theorem times_fn (a : List Int) (k : Int) (ha : canon a) (hk : digt k) (la : a.length < 100000000000) : Fn Tryz.prog 251 [ints a, I k] (ints (digs (val a * k).toNat)) := by
  have v0 := val_nonneg ha.1
  unfold digt at hk
  have ea : ints a = ints (digs (val a).toNat) := by rw [digs_of_canon ha]
  have eva : ((val a).toNat : Int) = val a := val_nat ha.1
  have c1 := normal_z false a ha.1 (by omega)
  rw [show sgn false (val a) = ((val a).toNat : Int) from eva.symm] at c1
  have bla : bl ((val a).toNat : Int) < room := by rw [bl_nat, digs_of_canon ha]; unfold room; omega
  have c2 := rofZ_fn k ⟨by omega, by omega⟩
  have c3 := rmulz_fn ((val a).toNat : Int) k bla (by have := bl_i64 (n := k) ⟨by omega, by omega⟩; unfold room; omega)
  have m0 : 0 ≤ val a * k := Int.mul_nonneg v0 hk.1
  rw [eva] at c3
  have hz : zA (val a * k) = .agg [.bool false, ints (digs (val a * k).toNat)] := by
    rw [← zA_nat, Int.toNat_of_nonneg m0]
  rw [hz, show zA (val a) = zA ((val a).toNat : Int) by rw [eva]] at c3
  obtain ⟨R, hR⟩ : ∃ R, R = ints (digs (val a * k).toNat) := ⟨_, rfl⟩
  have sR : Settled R := hR ▸ settled_ints _
  rw [← hR]
  refine Fn.intro (fn := Tryz.f251) Tryz.call251 Tryz.func251 rfl mixed 6 [] [] [] (by kernel_rfl) (Nat.le_of_ble_eq_true rfl) (by simp [settled_ints, settled_I, settled_fn0, settled_intss, settled_bool, settled_nil, settled_zA, settled_qA, settled_zR, settled_ofA, settled_int]) (vc_soundN 1000 ?_); simp (config := { maxSteps := 2000000 }) only [AS.start, ↓wPre, wA, ↓reduceIte, reduceIte, reduceCtorEq, Y1, Y2, Y3, Y4, Y5, Y6, Y7, Y8, Y9, YA, zA, qA, qC, wN]
  refine call_fn c1 rfl ?_
  simp only [↓wPre, wA, ↓reduceIte, reduceIte, reduceCtorEq, Y1, Y2, Y3, Y4, Y5, Y6, Y7, Y8, Y9, YA, zA, qA, qC, wN]
  refine call_fn c2 rfl ?_
  simp only [↓wPre, wA, ↓reduceIte, reduceIte, reduceCtorEq, Y1, Y2, Y3, Y4, Y5, Y6, Y7, Y8, Y9, YA, zA, qA, qC, wN]
  refine call_fn c3 rfl ?_
  simp only [↓wPre, wA, ↓reduceIte, reduceIte, reduceCtorEq, Y1, Y2, Y3, Y4, Y5, Y6, Y7, Y8, Y9, YA, zA, qA, qC, wN]
  exact ret1E rfl rfl sR hR.symm
theorem rnegz_fn (z : Int) (hz : bl z < room) : Fn Tryz.prog 166 [zA z] (zA (-z)) := by
  unfold bl room at hz
  obtain ⟨R, hR⟩ : ∃ R, R = zA (-z) := ⟨_, rfl⟩
  have sR : Settled R := hR ▸ settled_zA _
  rw [← hR]
  have c := normal_z (!decide (z < 0)) (digs z.natAbs) (digs_dig _) (by omega)
  have e : sgn (!decide (z < 0)) (val (digs z.natAbs)) = -z := by
    rw [digs_val]; unfold sgn
    by_cases h : z < 0
    · simp [h]; omega
    · simp [h]; omega
  rw [e, ← hR] at c
  refine Fn.intro (fn := Tryz.f166) Tryz.call166 Tryz.func166 rfl mixed 3 [] [] [] (by kernel_rfl) (Nat.le_of_ble_eq_true rfl) (by simp [settled_ints, settled_I, settled_fn0, settled_intss, settled_bool, settled_nil, settled_zA, settled_qA, settled_zR, settled_ofA, settled_int]) (vc_soundN 1000 ?_); simp (config := { maxSteps := 2000000 }) only [AS.start, ↓wPre, wA, ↓reduceIte, reduceIte, reduceCtorEq, Y1, Y2, Y3, Y4, Y5, Y6, Y7, Y8, Y9, YA, zA, qA, qC, wN]
  refine call_fn c rfl ?_
  simp only [hR, ↓wPre, wA, ↓reduceIte, reduceIte, reduceCtorEq, Y1, Y2, Y3, Y4, Y5, Y6, Y7, Y8, Y9, YA, zA, qA, qC, wN]
  exact retA rfl ldk26 rfl rfl rfl sR (hR.trans rfl)
theorem raddz_fn (x y : Int) (hx : bl x < room) (hy : bl y < room) : Fn Tryz.prog 163 [zA x, zA y] (zA (x + y)) := by
  obtain ⟨R, hR⟩ : ∃ R, R = zA (x + y) := ⟨_, rfl⟩
  have sR : Settled R := hR ▸ settled_zA _
  unfold bl room at hx hy
  have dx := digs_dig x.natAbs
  have dy := digs_dig y.natAbs
  have vx := digs_val x.natAbs
  have vy := digs_val y.natAbs
  have cmp := compared_fn _ _ (digs_canon x.natAbs) (digs_canon y.natAbs) (by omega)
  rw [vx, vy] at cmp
  rw [← hR]
  by_cases h : (x < 0 ↔ y < 0)
  · obtain ⟨L, l1, l2, l3, l4⟩ := rplus_fn _ _ dx dy (by omega) (by omega)
    have e : sgn (decide (x < 0)) (val L) = x + y := by
      rw [l2, vx, vy]; unfold sgn
      by_cases h2 : x < 0
      · rw [if_pos (decide_eq_true h2)]; omega
      · rw [if_neg (by simpa using h2)]; omega
    have c := normal_z (decide (x < 0)) L l1 (by omega)
    rw [e, ← hR] at c
    have fB : (decide (x < 0) == decide (y < 0)) = true := by simp [decide_eq_decide.2 h]
    refine Fn.intro (fn := Tryz.f163) Tryz.call163 Tryz.func163 rfl mixed 5 [] [] [] (by kernel_rfl) (Nat.le_of_ble_eq_true rfl) (by simp [settled_ints, settled_I, settled_fn0, settled_intss, settled_bool, settled_nil, settled_zA, settled_qA, settled_zR, settled_ofA, settled_int]) (vc_soundN 1000 ?_); simp (config := { maxSteps := 2000000 }) only [AS.start, ↓wPre, wA, ↓reduceIte, reduceIte, reduceCtorEq, Y1, Y2, Y3, Y4, Y5, Y6, Y7, Y8, Y9, YA, zA, qA, qC, wN]
    simp only [fB, ↓wPre, wA, ↓reduceIte, reduceIte, reduceCtorEq, Y1, Y2, Y3, Y4, Y5, Y6, Y7, Y8, Y9, YA, zA, qA, qC, wN]
    refine call_fn l4 rfl ?_
    simp only [↓wPre, wA, ↓reduceIte, reduceIte, reduceCtorEq, Y1, Y2, Y3, Y4, Y5, Y6, Y7, Y8, Y9, YA, zA, qA, qC, wN]
    refine call_fn c rfl ?_
    simp only [hR, ↓wPre, wA, ↓reduceIte, reduceIte, reduceCtorEq, Y1, Y2, Y3, Y4, Y5, Y6, Y7, Y8, Y9, YA, zA, qA, qC, wN]
    exact retA rfl ldk26 rfl rfl rfl sR (hR.trans rfl)
  have fB : (decide (x < 0) == decide (y < 0)) = false := by
    rw [beq_eq_false_iff_ne]; intro e; exact h (decide_eq_decide.1 e)
  by_cases hc : ((x.natAbs : Int) - y.natAbs).sign < 0
  · have hlt : (x.natAbs : Int) - y.natAbs < 0 := Int.sign_neg_iff.1 hc
    have hl : (digs x.natAbs).length ≤ (digs y.natAbs).length := bl_mono (show x.natAbs ≤ y.natAbs by omega)
    have cm := rminus_fn _ _ dy dx (by omega) hl (by omega)
    have vm := minusF_val dy dx hl (by omega)
    have e : sgn (decide (y < 0)) (val (minusF (digs y.natAbs) (digs x.natAbs))) = x + y := by
      rw [vm, vx, vy]; unfold sgn
      by_cases h2 : y < 0
      · rw [if_pos (decide_eq_true h2)]; omega
      · rw [if_neg (by simpa using h2)]; omega
    have c := normal_z (decide (y < 0)) _ (minusF_dig dy dx) (by unfold minusF; rw [tab_len]; omega)
    rw [e, ← hR] at c
    have fC : (((x.natAbs : Int) - y.natAbs).sign < 0) = True := eq_true hc
    refine Fn.intro (fn := Tryz.f163) Tryz.call163 Tryz.func163 rfl mixed 5 [] [] [] (by kernel_rfl) (Nat.le_of_ble_eq_true rfl) (by simp [settled_ints, settled_I, settled_fn0, settled_intss, settled_bool, settled_nil, settled_zA, settled_qA, settled_zR, settled_ofA, settled_int]) (vc_soundN 1000 ?_); simp (config := { maxSteps := 2000000 }) only [AS.start, ↓wPre, wA, ↓reduceIte, reduceIte, reduceCtorEq, Y1, Y2, Y3, Y4, Y5, Y6, Y7, Y8, Y9, YA, zA, qA, qC, wN]
    simp only [fB, ↓wPre, wA, ↓reduceIte, reduceIte, reduceCtorEq, Y1, Y2, Y3, Y4, Y5, Y6, Y7, Y8, Y9, YA, zA, qA, qC, wN]
    refine call_fn cmp rfl ?_
    simp only [fC, ↓wPre, wA, ↓reduceIte, reduceIte, reduceCtorEq, Y1, Y2, Y3, Y4, Y5, Y6, Y7, Y8, Y9, YA, zA, qA, qC, wN]
    refine call_fn cm rfl ?_
    simp only [↓wPre, wA, ↓reduceIte, reduceIte, reduceCtorEq, Y1, Y2, Y3, Y4, Y5, Y6, Y7, Y8, Y9, YA, zA, qA, qC, wN]
    refine call_fn c rfl ?_
    simp only [hR, ↓wPre, wA, ↓reduceIte, reduceIte, reduceCtorEq, Y1, Y2, Y3, Y4, Y5, Y6, Y7, Y8, Y9, YA, zA, qA, qC, wN]
    exact retA rfl ldk26 rfl rfl rfl sR (hR.trans rfl)
  · have hlt : ¬ (x.natAbs : Int) - y.natAbs < 0 := fun h => hc (Int.sign_neg_iff.2 h)
    have hl : (digs y.natAbs).length ≤ (digs x.natAbs).length := bl_mono (show y.natAbs ≤ x.natAbs by omega)
    have cm := rminus_fn _ _ dx dy (by omega) hl (by omega)
    have vm := minusF_val dx dy hl (by omega)
    have e : sgn (decide (x < 0)) (val (minusF (digs x.natAbs) (digs y.natAbs))) = x + y := by
      rw [vm, vx, vy]; unfold sgn
      by_cases h2 : x < 0
      · rw [if_pos (decide_eq_true h2)]; omega
      · rw [if_neg (by simpa using h2)]; omega
    have c := normal_z (decide (x < 0)) _ (minusF_dig dx dy) (by unfold minusF; rw [tab_len]; omega)
    rw [e, ← hR] at c
    have fC : (((x.natAbs : Int) - y.natAbs).sign < 0) = False := eq_false hc
    refine Fn.intro (fn := Tryz.f163) Tryz.call163 Tryz.func163 rfl mixed 5 [] [] [] (by kernel_rfl) (Nat.le_of_ble_eq_true rfl) (by simp [settled_ints, settled_I, settled_fn0, settled_intss, settled_bool, settled_nil, settled_zA, settled_qA, settled_zR, settled_ofA, settled_int]) (vc_soundN 1000 ?_); simp (config := { maxSteps := 2000000 }) only [AS.start, ↓wPre, wA, ↓reduceIte, reduceIte, reduceCtorEq, Y1, Y2, Y3, Y4, Y5, Y6, Y7, Y8, Y9, YA, zA, qA, qC, wN]
    simp only [fB, ↓wPre, wA, ↓reduceIte, reduceIte, reduceCtorEq, Y1, Y2, Y3, Y4, Y5, Y6, Y7, Y8, Y9, YA, zA, qA, qC, wN]
    refine call_fn cmp rfl ?_
    simp only [fC, ↓wPre, wA, ↓reduceIte, reduceIte, reduceCtorEq, Y1, Y2, Y3, Y4, Y5, Y6, Y7, Y8, Y9, YA, zA, qA, qC, wN]
    refine call_fn cm rfl ?_
    simp only [↓wPre, wA, ↓reduceIte, reduceIte, reduceCtorEq, Y1, Y2, Y3, Y4, Y5, Y6, Y7, Y8, Y9, YA, zA, qA, qC, wN]
    refine call_fn c rfl ?_
    simp only [hR, ↓wPre, wA, ↓reduceIte, reduceIte, reduceCtorEq, Y1, Y2, Y3, Y4, Y5, Y6, Y7, Y8, Y9, YA, zA, qA, qC, wN]
    exact retA rfl ldk26 rfl rfl rfl sR (hR.trans rfl)
end
end Go.Ab.N
