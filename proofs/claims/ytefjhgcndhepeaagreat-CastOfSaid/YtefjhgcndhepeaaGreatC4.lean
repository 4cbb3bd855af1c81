/- Contracts of functions of these chapters, for every argument that fits, and what they need. -/
import Derived.Test.YtefjhgcndhepeaaGreatC3
set_option linter.unusedSimpArgs false
set_option linter.unusedVariables false
open Nat renaming reducePow → Y1, reduceLT → Y2, reduceLeDiff → Y3, reduceEqDiff → Y4, reduceAdd → Y5, reduceMul → Y6, reduceSub → Y7, reduceBEq → Y8, reduceDiv → Y9, reduceMod → YA
namespace Go.Ab.N
open Go Go.RowKit Go.Proofs
noncomputable section
set_option maxRecDepth 10000
set_option maxHeartbeats 2000000
open Classical

theorem ediv_parts (x y : Int) (hy : y ≠ 0) (q r : Nat) (h : q = x.natAbs / y.natAbs) (hr : r = x.natAbs % y.natAbs) (q1 r1 : Nat) (h1 : if x < 0 ∧ r ≠ 0 then q1 = q + 1 ∧ r1 = y.natAbs - r else q1 = q ∧ r1 = r) :
    x / y = sgn (decide (x < 0) != decide (y < 0)) q1 ∧ x % y = r1 := by
  have hya : 0 < y.natAbs := by omega
  have e0 := Nat.mod_add_div x.natAbs y.natAbs
  have e1 := Nat.mod_lt x.natAbs hya
  rw [← h, ← hr] at e0
  rw [← hr] at e1
  have e0' : (r : Int) + y.natAbs * q = x.natAbs := by exact_mod_cast e0
  -- by the absolute value
  have key : x / (y.natAbs : Int) = sgn (decide (x < 0)) q1 ∧ x % (y.natAbs : Int) = r1 := by
    refine (Int.ediv_emod_unique (by omega)).2 ⟨?_, by omega, ?_⟩
    · unfold sgn
      by_cases hx : x < 0
      · rw [if_pos (decide_eq_true hx)]
        by_cases hr0 : r ≠ 0
        · rw [if_pos ⟨hx, hr0⟩] at h1
          obtain ⟨rfl, rfl⟩ := h1
          have : ((y.natAbs - r : Nat) : Int) = y.natAbs - r := by omega
          rw [this]
          push_cast
          rw [Int.mul_neg, Int.mul_add]
          omega
        · rw [if_neg (fun hh => hr0 hh.2)] at h1
          obtain ⟨rfl, rfl⟩ := h1
          rw [Int.mul_neg]
          omega
      · rw [if_neg (by simpa using hx)]
        rw [if_neg (fun hh => hx hh.1)] at h1
        obtain ⟨rfl, rfl⟩ := h1
        omega
    · split at h1 <;> omega
  by_cases hy0 : y < 0
  · have ey : (y.natAbs : Int) = -y := by omega
    rw [ey, Int.ediv_neg, Int.emod_neg] at key
    refine ⟨?_, key.2⟩
    have := key.1
    have e2 : x / y = -sgn (decide (x < 0)) q1 := by omega
    rw [e2]
    unfold sgn
    rw [decide_eq_true hy0]
    by_cases hx : x < 0 <;> simp [hx]
  · have ey : (y.natAbs : Int) = y := by omega
    rw [ey] at key
    refine ⟨?_, key.2⟩
    rw [key.1, decide_eq_false hy0]
    cases decide (x < 0) <;> rfl
theorem zA_sgnN (neg : Bool) (u : Nat) : zA (sgn neg u) = .agg [.bool (neg && decide (u ≠ 0)), ints (digs u)] := by
  rw [zA_sgn neg (by omega), Int.toNat_natCast]
  congr 3
  simp
theorem div_fn (x y : Int) (hx : bl x < 1000000000) (hy : bl y < 1000000000) (hy0 : y ≠ 0) : Fn Tryz.prog 209 [zA x, zA y] (.tup [zA (x / y), zA (x % y)]) := by
  have cd := divide_fn x.natAbs y.natAbs hx hy (by omega)
  obtain ⟨q, hq⟩ : ∃ q, q = x.natAbs / y.natAbs := ⟨_, rfl⟩
  obtain ⟨r, hr⟩ : ∃ r, r = x.natAbs % y.natAbs := ⟨_, rfl⟩
  have hry : r < y.natAbs := by rw [hr]; exact Nat.mod_lt _ (by omega)
  have hqx : q ≤ x.natAbs := by rw [hq]; exact Nat.div_le_self _ _
  rw [← hq, ← hr, zA_nat, zA_nat] at cd
  have lq : (digs q).length < 1000000000 := by
    have := bl_mono (y := (q : Int)) (z := x) (by omega)
    rw [bl_nat] at this; omega
  have lr : (digs r).length < 1000000000 := by
    have := bl_mono (y := (r : Int)) (z := y) (by omega)
    rw [bl_nat] at this; omega
  have ly : (digs y.natAbs).length < 1000000000 := hy
  have lry : (digs r).length ≤ (digs y.natAbs).length := by
    have := bl_mono (y := (r : Int)) (z := y) (by omega)
    rw [bl_nat] at this; exact this
  have ofC : ∀ L : List Int, dig L → L.length < 1000000002 → ∀ z : Nat, val L = z → Fn Tryz.prog 208 [.bool false, ints L] (.agg [.bool false, ints (digs z)]) := fun L h1 h2 z h3 => by
    have := of_z false L h1 (by omega)
    rw [h3] at this
    rw [← zA_nat]; exact this
  have y1 : ((digs y.natAbs).length = 0) = False := eq_false (fun h => by have := digs_len_zero.1 h; omega)
  have y2 : (((digs y.natAbs).length : Int) = 0) = False := eq_false (fun h => by have := digs_len_zero.1 (show (digs y.natAbs).length = 0 by omega); omega)
  obtain ⟨q1, r1, h1⟩ : ∃ q1 r1, if x < 0 ∧ r ≠ 0 then q1 = q + 1 ∧ r1 = y.natAbs - r else q1 = q ∧ r1 = r := by
    by_cases h : x < 0 ∧ r ≠ 0
    · exact ⟨q + 1, y.natAbs - r, by rw [if_pos h]; exact ⟨rfl, rfl⟩⟩
    · exact ⟨q, r, by rw [if_neg h]; exact ⟨rfl, rfl⟩⟩
  obtain ⟨e1, e2⟩ := ediv_parts x y hy0 q r hq hr q1 r1 h1
  obtain ⟨Q, hQ⟩ : ∃ Q, Q = zA (x / y) := ⟨_, rfl⟩
  obtain ⟨R, hR⟩ : ∃ R, R = zA (x % y) := ⟨_, rfl⟩
  have sQ : Settled Q := hQ ▸ settled_zA _
  have sR : Settled R := hR ▸ settled_zA _
  rw [← hQ, ← hR]
  rw [e1, zA_sgnN] at hQ
  rw [e2, zA_nat] at hR
  have fin : ∀ {s : AS} {t : Bool}, t = ((decide (x < 0) != decide (y < 0)) && decide (q1 ≠ 0)) → resAt Tryz.prog s (.cell 4 26) = some (.agg [.bool t, ints (digs q1)]) → resAt Tryz.prog s (.cell 5 26) = some (.agg [.bool false, ints (digs r1)]) →
      RetOk (envP Tryz.prog Tryz.f209 [8, 9000, 90000007] [] (.tup [Q, R])) s := fun ht h1 h2 => retRef2 rfl h1 h2 (sees_of sQ (by rw [hQ, ht])) (sees_of sR hR.symm)
  have g1 : ∀ n : Nat, (0 < (digs n).length) = (n ≠ 0) := fun n => propext (by have := @digs_len_zero n; omega)
  by_cases hc : x < 0 ∧ r ≠ 0
  · obtain ⟨hx0, hr0⟩ := hc
    rw [if_pos ⟨hx0, hr0⟩] at h1
    obtain ⟨rfl, rfl⟩ := h1
    obtain ⟨L, l1, l2, l3, l4⟩ := plus_ex (digs q) [1] (digs_dig q) (dig_cons.2 ⟨by unfold digt; omega, dig_nil⟩) (by omega) (by simp)
    obtain ⟨M, m1, m2, m3, m4⟩ := minus_ex (digs y.natAbs) (digs r) (digs_dig _) (digs_dig _) (by omega) lry (by rw [digs_val, digs_val]; omega)
    have c2 := ofC L l1 (by simp at l3; omega) (q + 1) (by rw [l2, digs_val]; simp [val])
    have c3 := ofC M m1 (by omega) (y.natAbs - r) (by rw [m2, digs_val, digs_val]; omega)
    have f1 : (x < 0) = True := eq_true hx0
    have f2 : (0 < (digs r).length) = True := eq_true (by rw [g1]; exact hr0)
    have f3 : (0 < ((digs r).length : Int)) = True := eq_true (by have := of_eq_true f2; omega)
    have f4 : (0 < (digs (q + 1)).length) = True := eq_true (by rw [g1]; omega)
    have f5 : (0 < ((digs (q + 1)).length : Int)) = True := eq_true (by have := of_eq_true f4; omega)
    refine Fn.intro (fn := Tryz.f209) Tryz.call209 Tryz.func209 rfl mixed 8 [] [8, 9000, 90000007] [] (by kernel_rfl) (Nat.le_of_ble_eq_true rfl) (by simp [settled_ints, settled_I, settled_fn0, settled_intss, settled_bool, settled_nil, settled_zA, settled_ofA, settled_int]) (vc_soundN 1000 ?_); simp (config := { maxSteps := 2000000 }) only [AS.start, ↓wPre, wA, ↓reduceIte, reduceIte, reduceCtorEq, Y1, Y2, Y3, Y4, Y5, Y6, Y7, Y8, Y9, YA, zA, wN]
    simp only [y1, y2, f1, f2, f3, f4, f5, ↓wPre, wA, ↓reduceIte, reduceIte, reduceCtorEq, Y1, Y2, Y3, Y4, Y5, Y6, Y7, Y8, Y9, YA, zA, wN]
    refine call_fn cd rfl ?_
    simp only [y1, y2, f1, f2, f3, f4, f5, ↓wPre, wA, ↓reduceIte, reduceIte, reduceCtorEq, Y1, Y2, Y3, Y4, Y5, Y6, Y7, Y8, Y9, YA, zA, wN]
    refine call_weak l4 ⟨Weak.rfl' _, weak_litE rfl rfl, trivial⟩ ?_
    simp only [y1, y2, f1, f2, f3, f4, f5, ↓wPre, wA, ↓reduceIte, reduceIte, reduceCtorEq, Y1, Y2, Y3, Y4, Y5, Y6, Y7, Y8, Y9, YA, zA, wN]
    refine call_fn c2 rfl ?_
    simp only [y1, y2, f1, f2, f3, f4, f5, ↓wPre, wA, ↓reduceIte, reduceIte, reduceCtorEq, Y1, Y2, Y3, Y4, Y5, Y6, Y7, Y8, Y9, YA, zA, wN]
    refine call_fn m4 rfl ?_
    simp only [y1, y2, f1, f2, f3, f4, f5, ↓wPre, wA, ↓reduceIte, reduceIte, reduceCtorEq, Y1, Y2, Y3, Y4, Y5, Y6, Y7, Y8, Y9, YA, zA, wN]
    refine call_fn c3 rfl ?_
    simp only [y1, y2, f1, f2, f3, f4, f5, ↓wPre, wA, ↓reduceIte, reduceIte, reduceCtorEq, Y1, Y2, Y3, Y4, Y5, Y6, Y7, Y8, Y9, YA, zA, wN]
    refine guardP_intro (fun h => fin ?_ (resAt_ref ldk26 rfl rfl rfl) (resAt_ref ldk26 rfl rfl rfl)) (fun h => fin ?_ (resAt_ref ldk26 rfl rfl rfl) (resAt_ref ldk26 rfl rfl rfl))
    · have : decide (y < 0) = false := by simpa using h
      simp [hx0, this]
    · have : decide (y < 0) = true := by simpa using h
      simp [hx0, this]
  rw [if_neg hc] at h1
  obtain ⟨rfl, rfl⟩ := h1
  have zr : ∀ h : x < 0, (0 < (digs r1).length) = False := fun h => eq_false (by rw [g1]; exact fun h2 => hc ⟨h, h2⟩)
  by_cases hx0 : x < 0
  · have f1 : (x < 0) = True := eq_true hx0
    have f2 := zr hx0
    have f3 : (0 < ((digs r1).length : Int)) = False := eq_false (by have := of_eq_false f2; omega)
    by_cases hq0 : q1 ≠ 0
    · have f4 : (0 < (digs q1).length) = True := eq_true (by rw [g1]; exact hq0)
      have f5 : (0 < ((digs q1).length : Int)) = True := eq_true (by have := of_eq_true f4; omega)
      refine Fn.intro (fn := Tryz.f209) Tryz.call209 Tryz.func209 rfl mixed 8 [] [8, 9000, 90000007] [] (by kernel_rfl) (Nat.le_of_ble_eq_true rfl) (by simp [settled_ints, settled_I, settled_fn0, settled_intss, settled_bool, settled_nil, settled_zA, settled_ofA, settled_int]) (vc_soundN 1000 ?_); simp (config := { maxSteps := 2000000 }) only [AS.start, ↓wPre, wA, ↓reduceIte, reduceIte, reduceCtorEq, Y1, Y2, Y3, Y4, Y5, Y6, Y7, Y8, Y9, YA, zA, wN]
      simp only [y1, y2, f1, f2, f3, f4, f5, ↓wPre, wA, ↓reduceIte, reduceIte, reduceCtorEq, Y1, Y2, Y3, Y4, Y5, Y6, Y7, Y8, Y9, YA, zA, wN]
      refine call_fn cd rfl ?_
      simp only [y1, y2, f1, f2, f3, f4, f5, ↓wPre, wA, ↓reduceIte, reduceIte, reduceCtorEq, Y1, Y2, Y3, Y4, Y5, Y6, Y7, Y8, Y9, YA, zA, wN]
      refine guardP_intro (fun h => fin ?_ (resAt_ref ldk26 rfl rfl rfl) (resAt_ref ldk26 rfl rfl rfl)) (fun h => fin ?_ (resAt_ref ldk26 rfl rfl rfl) (resAt_ref ldk26 rfl rfl rfl)) <;> simpa [hx0, hq0] using h
    · have f4 : (0 < (digs q1).length) = False := eq_false (by rw [g1]; exact hq0)
      have f5 : (0 < ((digs q1).length : Int)) = False := eq_false (by have := of_eq_false f4; omega)
      refine Fn.intro (fn := Tryz.f209) Tryz.call209 Tryz.func209 rfl mixed 8 [] [8, 9000, 90000007] [] (by kernel_rfl) (Nat.le_of_ble_eq_true rfl) (by simp [settled_ints, settled_I, settled_fn0, settled_intss, settled_bool, settled_nil, settled_zA, settled_ofA, settled_int]) (vc_soundN 1000 ?_); simp (config := { maxSteps := 2000000 }) only [AS.start, ↓wPre, wA, ↓reduceIte, reduceIte, reduceCtorEq, Y1, Y2, Y3, Y4, Y5, Y6, Y7, Y8, Y9, YA, zA, wN]
      simp only [y1, y2, f1, f2, f3, f4, f5, ↓wPre, wA, ↓reduceIte, reduceIte, reduceCtorEq, Y1, Y2, Y3, Y4, Y5, Y6, Y7, Y8, Y9, YA, zA, wN]
      refine call_fn cd rfl ?_
      simp only [y1, y2, f1, f2, f3, f4, f5, ↓wPre, wA, ↓reduceIte, reduceIte, reduceCtorEq, Y1, Y2, Y3, Y4, Y5, Y6, Y7, Y8, Y9, YA, zA, wN]
      refine guardP_intro (fun h => fin ?_ (resAt_ref ldk26 rfl rfl rfl) (resAt_ref ldk26 rfl rfl rfl)) (fun h => fin ?_ (resAt_ref ldk26 rfl rfl rfl) (resAt_ref ldk26 rfl rfl rfl)) <;> simp [hq0]
  · have f1 : (x < 0) = False := eq_false hx0
    have f2 : True = True := rfl
    have f3 : True = True := rfl
    by_cases hq0 : q1 ≠ 0
    · have f4 : (0 < (digs q1).length) = True := eq_true (by rw [g1]; exact hq0)
      have f5 : (0 < ((digs q1).length : Int)) = True := eq_true (by have := of_eq_true f4; omega)
      refine Fn.intro (fn := Tryz.f209) Tryz.call209 Tryz.func209 rfl mixed 8 [] [8, 9000, 90000007] [] (by kernel_rfl) (Nat.le_of_ble_eq_true rfl) (by simp [settled_ints, settled_I, settled_fn0, settled_intss, settled_bool, settled_nil, settled_zA, settled_ofA, settled_int]) (vc_soundN 1000 ?_); simp (config := { maxSteps := 2000000 }) only [AS.start, ↓wPre, wA, ↓reduceIte, reduceIte, reduceCtorEq, Y1, Y2, Y3, Y4, Y5, Y6, Y7, Y8, Y9, YA, zA, wN]
      simp only [y1, y2, f1, f2, f3, f4, f5, ↓wPre, wA, ↓reduceIte, reduceIte, reduceCtorEq, Y1, Y2, Y3, Y4, Y5, Y6, Y7, Y8, Y9, YA, zA, wN]
      refine call_fn cd rfl ?_
      simp only [y1, y2, f1, f2, f3, f4, f5, ↓wPre, wA, ↓reduceIte, reduceIte, reduceCtorEq, Y1, Y2, Y3, Y4, Y5, Y6, Y7, Y8, Y9, YA, zA, wN]
      refine guardP_intro (fun h => fin ?_ (resAt_ref ldk26 rfl rfl rfl) (resAt_ref ldk26 rfl rfl rfl)) (fun h => fin ?_ (resAt_ref ldk26 rfl rfl rfl) (resAt_ref ldk26 rfl rfl rfl)) <;> simpa [hx0, hq0] using h
    · have f4 : (0 < (digs q1).length) = False := eq_false (by rw [g1]; exact hq0)
      have f5 : (0 < ((digs q1).length : Int)) = False := eq_false (by have := of_eq_false f4; omega)
      refine Fn.intro (fn := Tryz.f209) Tryz.call209 Tryz.func209 rfl mixed 8 [] [8, 9000, 90000007] [] (by kernel_rfl) (Nat.le_of_ble_eq_true rfl) (by simp [settled_ints, settled_I, settled_fn0, settled_intss, settled_bool, settled_nil, settled_zA, settled_ofA, settled_int]) (vc_soundN 1000 ?_); simp (config := { maxSteps := 2000000 }) only [AS.start, ↓wPre, wA, ↓reduceIte, reduceIte, reduceCtorEq, Y1, Y2, Y3, Y4, Y5, Y6, Y7, Y8, Y9, YA, zA, wN]
      simp only [y1, y2, f1, f2, f3, f4, f5, ↓wPre, wA, ↓reduceIte, reduceIte, reduceCtorEq, Y1, Y2, Y3, Y4, Y5, Y6, Y7, Y8, Y9, YA, zA, wN]
      refine call_fn cd rfl ?_
      simp only [y1, y2, f1, f2, f3, f4, f5, ↓wPre, wA, ↓reduceIte, reduceIte, reduceCtorEq, Y1, Y2, Y3, Y4, Y5, Y6, Y7, Y8, Y9, YA, zA, wN]
      refine guardP_intro (fun h => fin ?_ (resAt_ref ldk26 rfl rfl rfl) (resAt_ref ldk26 rfl rfl rfl)) (fun h => fin ?_ (resAt_ref ldk26 rfl rfl rfl) (resAt_ref ldk26 rfl rfl rfl)) <;> simp [hq0]
end
end Go.Ab.N
namespace Go.Ab.N
open Go Go.RowKit Go.Proofs
noncomputable section
set_option maxRecDepth 10000
set_option maxHeartbeats 2000000
open Classical

def gcdSt (x y : Int) (p : Nat × Nat) : AS :=
  ⟨13, [], [zA x, zA y, .ref 0 0 0, .ref 1 0 0, .ref 2 0 0, .ref 3 0 0, .ref 4 0 0, .any, .any, .any, .any, .any, .any], [],
    [.con 0 2 (ofL [.bool (decide (x < 0)), ints (digs x.natAbs)]), .con 0 2 (ofL [.bool (decide (y < 0)), ints (digs y.natAbs)]), .row 0 2 (ofL [.bool false, .sl 0 0 (fun _ => .any) true]),
     .row 0 2 (ofL [.bool false, ints (digs p.1)]), .row 0 2 (ofL [.bool false, ints (digs p.2)])]⟩
def gcdI (x y : Int) (p : Nat × Nat) : Prop := Nat.gcd p.1 p.2 = Int.gcd x y ∧ (digs p.1).length < 1000000000 ∧ (digs p.2).length < 1000000000
theorem gcd_fn (x y : Int) (hx : bl x < 1000000000) (hy : bl y < 1000000000) : Fn Tryz.prog 171 [zA x, zA y] (zA (Int.gcd x y)) := by
  have ofC : ∀ n : Nat, (digs n).length < 1000000002 → Fn Tryz.prog 208 [.bool false, ints (digs n)] (.agg [.bool false, ints (digs n)]) := fun n h => by
    have := of_z false (digs n) (digs_dig n) (by omega)
    rw [digs_val] at this
    rw [← zA_nat]; exact this
  unfold bl at hx hy
  have cx := ofC x.natAbs (by omega)
  have cy := ofC y.natAbs (by omega)
  obtain ⟨R, hR⟩ : ∃ R, R = zA (Int.gcd x y) := ⟨_, rfl⟩
  have sR : Settled R := hR ▸ settled_zA _
  rw [← hR]
  rw [zA_nat] at hR
  refine Fn.intro (fn := Tryz.f171) Tryz.call171 Tryz.func171 rfl mixed 13 [] [1, 20000002, 20000003, 10, 11000, 110000012] [] (by kernel_rfl) (Nat.le_of_ble_eq_true rfl) (by simp [settled_ints, settled_I, settled_fn0, settled_intss, settled_bool, settled_nil, settled_zA, settled_ofA, settled_int]) (vc_soundN 1000 ?_); simp (config := { maxSteps := 2000000 }) only [AS.start, ↓wPre, wA, ↓reduceIte, reduceIte, reduceCtorEq, Y1, Y2, Y3, Y4, Y5, Y6, Y7, Y8, Y9, YA, zA, wN]
  refine call_fn cx rfl ?_
  simp only [↓wPre, wA, ↓reduceIte, reduceIte, reduceCtorEq, Y1, Y2, Y3, Y4, Y5, Y6, Y7, Y8, Y9, YA, zA, wN]
  refine call_fn cy rfl ?_
  simp only [↓wPre, wA, ↓reduceIte, reduceIte, reduceCtorEq, Y1, Y2, Y3, Y4, Y5, Y6, Y7, Y8, Y9, YA, zA, wN]
  refine run_loop (gcdSt x y) (gcdI x y) (fun p => p.2) (x.natAbs, y.natAbs) ⟨rfl, hx, hy⟩ ?_ ?_
  · unfold gcdSt
    exact (sub_mk rfl (by simp [zA, wN, subL, ints, intss, bools, sl1, I]) (by simp [subT]) rfl)
  rintro ⟨A, B⟩ ⟨g1, g2, g3⟩ next
  simp only at g1 g2 g3
  by_cases hB : B = 0
  · have f1 : (0 < (digs B).length) = False := eq_false (by have := @digs_len_zero B; omega)
    have f2 : (0 < ((digs B).length : Int)) = False := eq_false (by have := @digs_len_zero B; omega)
    refine vc_soundN 1000 ?_
    simp only [gcdSt, f1, f2, ↓wPre, wA, ↓reduceIte, reduceIte, reduceCtorEq, Y1, Y2, Y3, Y4, Y5, Y6, Y7, Y8, Y9, YA, zA, wN]
    refine retRefE rfl ldk26 rfl rfl rfl hR sR ?_
    rw [hB, Nat.gcd_zero_right] at g1
    rw [← g1]
    exact ⟨Weak.rfl' _, Weak.rfl' _, trivial⟩
  have f1 : (0 < (digs B).length) = True := eq_true (by have := @digs_len_zero B; omega)
  have f2 : (0 < ((digs B).length : Int)) = True := eq_true (by have := @digs_len_zero B; omega)
  have c1 := two_fn _ (digs_dig A)
  have c2 := two_fn _ (digs_dig B)
  rw [digs_val] at c1 c2
  by_cases hAB : (digs A).length ≤ 2 ∧ (digs B).length ≤ 2
  · have k1 : ((digs A).length ≤ 2) = True := eq_true hAB.1
    have k2 : ((digs B).length ≤ 2) = True := eq_true hAB.2
    simp only [k1, decide_true, ite_true] at c1
    simp only [k2, decide_true, ite_true] at c2
    have l1 := digs_len2 hAB.1
    have l2 := digs_len2 hAB.2
    refine vc_soundN 1000 ?_
    simp only [gcdSt, f1, f2, ↓wPre, wA, ↓reduceIte, reduceIte, reduceCtorEq, Y1, Y2, Y3, Y4, Y5, Y6, Y7, Y8, Y9, YA, zA, wN]
    refine call_fn c1 rfl ?_
    simp only [↓wPre, wA, ↓reduceIte, reduceIte, reduceCtorEq, Y1, Y2, Y3, Y4, Y5, Y6, Y7, Y8, Y9, YA, zA, wN]
    refine call_fn c2 rfl ?_
    simp only [↓wPre, wA, ↓reduceIte, reduceIte, reduceCtorEq, Y1, Y2, Y3, Y4, Y5, Y6, Y7, Y8, Y9, YA, zA, wN]
    refine run_loop (fun p : Nat × Nat => ⟨13, [], [zA x, zA y, .ref 0 0 0, .ref 1 0 0, .ref 2 0 0, .ref 3 0 0, .ref 4 0 0, I p.1, .any, I p.2, .any, .any, .any], [],
      [.con 0 2 (ofL [.bool (decide (x < 0)), ints (digs x.natAbs)]), .con 0 2 (ofL [.bool (decide (y < 0)), ints (digs y.natAbs)]), .row 0 2 (ofL [.bool false, .sl 0 0 (fun _ => .any) true]),
       .row 0 2 (ofL [.bool false, ints (digs A)]), .row 0 2 (ofL [.bool false, ints (digs B)])]⟩) (fun p => Nat.gcd p.1 p.2 = Int.gcd x y ∧ (p.1 : Int) < 1000000000000000000 ∧ (p.2 : Int) < 1000000000000000000) (fun p => p.2) (A, B) ⟨g1, l1, l2⟩ (sub_mk rfl (by simp [zA, wN, subL, ints, intss, bools, sl1, I]) (by simp [subT]) rfl) ?_
    rintro ⟨m, n⟩ ⟨h1, h2, h3⟩ next2
    simp only at h1 h2 h3
    by_cases hn : n = 0
    · have j1 : (0 < (n : Int)) = False := eq_false (by omega)
      have j1' : (0 < n) = False := eq_false (by omega)
      have hm : m = Int.gcd x y := by rw [hn, Nat.gcd_zero_right] at h1; exact h1
      have w1 : IntKind.u64.wrap (m : Int) = m := by rw [IntKind.wrap_u64]; omega
      have cu : Fn Tryz.prog 207 [.bool false, .int .u64 (m : Int)] (.agg [.bool false, ints (digs m)]) := by
        rw [← zA_nat]
        exact unsigned_fn false _ (by omega) (by omega)
      refine vc_soundN 1000 ?_
      simp only [j1, j1', w1, ↓wPre, wA, ↓reduceIte, reduceIte, reduceCtorEq, Y1, Y2, Y3, Y4, Y5, Y6, Y7, Y8, Y9, YA, zA, wN]
      refine call_fn cu rfl ?_
      simp only [↓wPre, wA, ↓reduceIte, reduceIte, reduceCtorEq, Y1, Y2, Y3, Y4, Y5, Y6, Y7, Y8, Y9, YA, zA, wN]
      refine retRefE rfl ldk26 rfl rfl rfl hR sR ?_
      rw [← hm]
      exact ⟨Weak.rfl' _, Weak.rfl' _, trivial⟩
    · have j1 : (0 < (n : Int)) = True := eq_true (by omega)
      have j1' : (0 < n) = True := eq_true (by omega)
      have j2 : ((n : Int) = 0) = False := eq_false (by omega)
      have e2 : (m : Int).tmod n = ((m % n : Nat) : Int) := rfl
      have hlt : m % n < n := Nat.mod_lt _ (by omega)
      refine vc_soundN 1000 ?_
      simp only [j1, j1', j2, e2, ↓wPre, wA, ↓reduceIte, reduceIte, reduceCtorEq, Y1, Y2, Y3, Y4, Y5, Y6, Y7, Y8, Y9, YA, zA, wN]
      refine next2 (n, m % n) _ ⟨?_, h3, by simp only; omega⟩ hlt (sub_mk rfl (by simp [zA, wN, subL, ints, intss, bools, sl1, I]) (by simp [subT]) rfl)
      simp only
      rw [← h1, Nat.gcd_comm m n, Nat.gcd_rec n m, Nat.gcd_comm]
  · have cd := divide_fn A B g2 g3 hB
    rw [zA_nat, zA_nat] at cd
    have hlt : A % B < B := Nat.mod_lt _ (by omega)
    have gnew : gcdI x y (B, A % B) := by
      refine ⟨?_, g3, ?_⟩
      · simp only
        rw [← g1, Nat.gcd_comm A B, Nat.gcd_rec B A, Nat.gcd_comm]
      · have := bl_mono (y := ((A % B : Nat) : Int)) (z := (B : Int)) (by omega)
        rw [bl_nat, bl_nat] at this
        simp only; omega
    by_cases hA2 : (digs A).length ≤ 2
    · have k1 : ((digs A).length ≤ 2) = True := eq_true hA2
      have k2 : ((digs B).length ≤ 2) = False := eq_false fun h => hAB ⟨hA2, h⟩
      refine vc_soundN 1000 ?_
      simp only [gcdSt, f1, f2, k1, k2, ↓wPre, wA, ↓reduceIte, reduceIte, reduceCtorEq, Y1, Y2, Y3, Y4, Y5, Y6, Y7, Y8, Y9, YA, zA, wN]
      refine call_fn c1 rfl ?_
      simp only [k1, k2, ↓wPre, wA, ↓reduceIte, reduceIte, reduceCtorEq, Y1, Y2, Y3, Y4, Y5, Y6, Y7, Y8, Y9, YA, zA, wN]
      refine call_fn c2 rfl ?_
      simp only [k1, k2, ↓wPre, wA, ↓reduceIte, reduceIte, reduceCtorEq, Y1, Y2, Y3, Y4, Y5, Y6, Y7, Y8, Y9, YA, zA, wN]
      refine call_fn cd rfl ?_
      simp only [k1, k2, ↓wPre, wA, ↓reduceIte, reduceIte, reduceCtorEq, Y1, Y2, Y3, Y4, Y5, Y6, Y7, Y8, Y9, YA, zA, wN]
      exact next (B, A % B) _ gnew hlt (sub_cut (m := 5) (Nat.zero_le _) rfl (by simp [zA, wN, gcdSt, subL, ints, sl1, I]) (by simp [zA, wN, gcdSt, subT]) (by simp [zA, wN, gcdSt, ints, sl1, I]) (by simp [zA, wN, gcdSt, wBel]) (by simp [zA, wN, gcdSt, wBel]) (by simp [zA, wN, gcdSt, wBel]))
    · have k1 : ((digs A).length ≤ 2) = False := eq_false hA2
      refine vc_soundN 1000 ?_
      simp only [gcdSt, f1, f2, k1, ↓wPre, wA, ↓reduceIte, reduceIte, reduceCtorEq, Y1, Y2, Y3, Y4, Y5, Y6, Y7, Y8, Y9, YA, zA, wN]
      refine call_fn c1 rfl ?_
      simp only [k1, ↓wPre, wA, ↓reduceIte, reduceIte, reduceCtorEq, Y1, Y2, Y3, Y4, Y5, Y6, Y7, Y8, Y9, YA, zA, wN]
      refine call_fn c2 rfl ?_
      simp only [k1, ↓wPre, wA, ↓reduceIte, reduceIte, reduceCtorEq, Y1, Y2, Y3, Y4, Y5, Y6, Y7, Y8, Y9, YA, zA, wN]
      refine call_fn cd rfl ?_
      simp only [k1, ↓wPre, wA, ↓reduceIte, reduceIte, reduceCtorEq, Y1, Y2, Y3, Y4, Y5, Y6, Y7, Y8, Y9, YA, zA, wN]
      exact next (B, A % B) _ gnew hlt (sub_cut (m := 5) (Nat.zero_le _) rfl (by simp [zA, wN, gcdSt, subL, ints, sl1, I]) (by simp [zA, wN, gcdSt, subT]) (by simp [zA, wN, gcdSt, ints, sl1, I]) (by simp [zA, wN, gcdSt, wBel]) (by simp [zA, wN, gcdSt, wBel]) (by simp [zA, wN, gcdSt, wBel]))
end
end Go.Ab.N
namespace Go.Ab.N
open Go Go.RowKit Go.Proofs
noncomputable section
set_option maxRecDepth 10000
set_option maxHeartbeats 2000000
open Classical

/-! ### The first that a function finds -/
def idxF (p : Int → Bool) (s : List Int) : Int := if s.any p = true then (s.findIdx p : Nat) else -1
theorem idxF_hit {p : Int → Bool} {s : List Int} {j : Nat} (hj : j < s.length) (h : p (s.getD j 0) = true) (hno : ∀ i, i < j → p (s.getD i 0) = false) : idxF p s = j := by
  have at_ : ∀ i (hi : i < s.length), s.getD i 0 = s[i] := fun i hi => by rw [List.getD_eq_getElem?_getD, List.getElem?_eq_getElem hi]; rfl
  have e : s.findIdx p = j := by
    rw [List.findIdx_eq hj]
    exact ⟨by rw [← at_ j hj]; exact h, fun i hi => by rw [← at_ i (by omega)]; exact hno i hi⟩
  unfold idxF
  rw [if_pos (List.any_eq_true.2 ⟨_, getD_mem hj, h⟩), e]
theorem idxF_none {p : Int → Bool} {s : List Int} (hno : ∀ i, i < s.length → p (s.getD i 0) = false) : idxF p s = -1 := by
  unfold idxF
  rw [if_neg]
  intro h
  obtain ⟨x, hx, hp⟩ := List.any_eq_true.1 h
  obtain ⟨i, hi, rfl⟩ := List.getElem_of_mem hx
  have := hno i hi
  rw [List.getD_eq_getElem?_getD, List.getElem?_eq_getElem hi] at this
  simp only [Option.getD_some] at this
  rw [this] at hp; cases hp
theorem idxF_any (p : Int → Bool) (s : List Int) : decide (0 ≤ idxF p s) = s.any p := by
  unfold idxF
  cases h : s.any p
  · simp
  · rw [if_pos rfl]; exact decide_eq_true (by omega)

theorem indexf_fn (s : List Int) (f : FuncId) (caps : List AV) (p : Int → Bool) (hl : s.length < 4611686018427387904) (hc : ∀ a ∈ caps, Settled a) (hp : ∀ x ∈ s, Fn Tryz.prog f ([I x] ++ caps) (.bool (p x))) :
    Fn Tryz.prog 252 [ints s, .fn f caps] (I (idxF p s)) := by
  refine Fn.intro (fn := Tryz.f252) Tryz.call252 Tryz.func252 rfl mixed 6 [6, 7, 8] [] [] (by kernel_rfl) (Nat.le_of_ble_eq_true rfl) (by simpa [settled_ints] using settled_fn hc) (vc_soundN 1000 ?_)
  simp only [AS.start, ↓wPre, wA, ↓reduceIte, reduceIte, reduceCtorEq, Y1, Y2, Y3, Y4, Y5, Y6, Y7, Y8, Y9, YA, zA, wN]
  refine run_loop (fun j : Nat => ⟨6, [6, 7, 8], [ints s, .fn f caps, .any, .any, .any, .any], [(6, ints s), (7, I s.length), (8, I j)], []⟩) (fun j => j ≤ s.length ∧ ∀ i, i < j → p (s.getD i 0) = false) (fun j => s.length - j) 0 ⟨by omega, by omega⟩
    (sub_mk rfl (by simp [subL, ints, sl1, I]) (by simp [subT, look, ints, sl1, I]) rfl) ?_
  rintro j ⟨hj, hno⟩ next
  have w1 := wj j (by omega)
  refine vc_soundN 1000 ?_
  simp only [w1, ↓wPre, wA, ↓reduceIte, reduceIte, reduceCtorEq, Y1, Y2, Y3, Y4, Y5, Y6, Y7, Y8, Y9, YA, zA, wN]
  refine ⟨fun h => ⟨h, h, ?_⟩, fun h => ret1E (v := I (-1)) rfl rfl (settled_I _) ?_⟩
  · refine call_weak (hp _ (getD_mem h)) (weakL_rfl _) ?_
    simp only [w1, ↓wPre, wA, ↓reduceIte, reduceIte, reduceCtorEq, Y1, Y2, Y3, Y4, Y5, Y6, Y7, Y8, Y9, YA, zA, wN]
    refine guardP_intro (fun ht => ret1E (v := I j) rfl rfl (settled_I _) ?_) (fun hf => next (j + 1) _ ⟨by omega, fun i hi => ?_⟩ (by omega) (sub_mk rfl ?_ ?_ rfl))
    · rw [idxF_hit h ht hno]
    · by_cases e : i = j
      · rw [e]; exact hf
      · exact hno i (by omega)
    · simp [subL, ints, sl1, I]
    · simp [subT, look, ints, sl1, I]
  · rw [idxF_none fun i hi => hno i (by omega)]
theorem containsf_fn (s : List Int) (f : FuncId) (caps : List AV) (p : Int → Bool) (hl : s.length < 4611686018427387904) (hc : ∀ a ∈ caps, Settled a) (hp : ∀ x ∈ s, Fn Tryz.prog f ([I x] ++ caps) (.bool (p x))) :
    Fn Tryz.prog 224 [ints s, .fn f caps] (.bool (s.any p)) := by
  refine Fn.intro (fn := Tryz.f224) Tryz.call224 Tryz.func224 rfl mixed 5 [] [] [] (by kernel_rfl) (Nat.le_of_ble_eq_true rfl) (by simpa [settled_ints] using settled_fn hc) (vc_soundN 1000 ?_)
  simp only [AS.start, ↓wPre, wA, ↓reduceIte, reduceIte, reduceCtorEq, Y1, Y2, Y3, Y4, Y5, Y6, Y7, Y8, Y9, YA, zA, wN]
  have hi := idxF_any p s
  refine call_fn (indexf_fn s f caps p hl hc hp) rfl ?_
  simp only [↓wPre, wA, ↓reduceIte, reduceIte, reduceCtorEq, Y1, Y2, Y3, Y4, Y5, Y6, Y7, Y8, Y9, YA, zA, wN]
  exact ret1E (v := .bool (decide (0 ≤ idxF p s))) rfl rfl (settled_bool _) (by rw [idxF_any])


/-! ### Raw integers -/
def zR (neg : Bool) (d : List Int) : AV := .agg [.bool neg, ints d]
theorem settled_zR (neg : Bool) (d : List Int) : Settled (zR neg d) := settled_agg (by simp [settled_ints, settled_bool])
theorem zA_zR (z : Int) : zA z = zR (decide (z < 0)) (digs z.natAbs) := rfl
def badD (x : Int) : Bool := decide (x < 0) || decide (1000000000 ≤ x)
def validZ (neg : Bool) (d : List Int) : Bool := !(d.any badD) && (if d.length = 0 then !neg else decide (d.getD (d.length - 1) 0 ≠ 0))
theorem validZ_iff (neg : Bool) (d : List Int) : validZ neg d = true ↔ ∃ z : Int, neg = decide (z < 0) ∧ d = digs z.natAbs := by
  have hd : (!(d.any badD)) = true ↔ dig d := by
    simp only [Bool.not_eq_true', List.any_eq_false, badD, Bool.or_eq_true, decide_eq_true_eq, not_or]
    unfold dig digt
    constructor
    · intro h x hx
      have := h x hx; omega
    · intro h x hx
      have := h x hx; omega
  unfold validZ
  rw [Bool.and_eq_true, hd]
  constructor
  · rintro ⟨h1, h2⟩
    by_cases h0 : d.length = 0
    · rw [if_pos h0] at h2
      obtain rfl := List.length_eq_zero_iff.1 h0
      exact ⟨0, by simpa using h2, by simp [digs_zero]⟩
    · rw [if_neg h0] at h2
      have hc : canon d := ⟨h1, fun _ => by simpa using h2⟩
      have hne : d ≠ [] := fun e => h0 (by rw [e]; rfl)
      have hp : 0 < val d := by
        have := canon_ge hc hne
        have := pw_pos (d.length - 1)
        omega
      refine ⟨sgn neg (val d), ?_, ?_⟩
      · unfold sgn; cases neg
        · simp; omega
        · simp; omega
      · rw [show (sgn neg (val d)).natAbs = (val d).toNat by unfold sgn; split <;> omega]
        exact (digs_of_canon hc).symm
  · rintro ⟨z, rfl, rfl⟩
    refine ⟨digs_dig _, ?_⟩
    by_cases h0 : (digs z.natAbs).length = 0
    · rw [if_pos h0]
      have := digs_len_zero.1 h0
      simp; omega
    · rw [if_neg h0]
      exact decide_eq_true ((digs_canon z.natAbs).2 fun e => h0 (by rw [e]; rfl))
theorem valid1_fn (x : Int) : Fn Tryz.prog 225 [I x] (.bool (badD x)) := by
  refine Fn.intro (fn := Tryz.f225) Tryz.call225 Tryz.func225 rfl mixed 3 [] [] [] (by kernel_rfl) (Nat.le_of_ble_eq_true rfl) (by simp [settled_ints, settled_I, settled_fn0, settled_intss, settled_bool, settled_nil, settled_zA, settled_ofA, settled_int]) (vc_soundN 1000 ?_); simp (config := { maxSteps := 2000000 }) only [AS.start, ↓wPre, wA, ↓reduceIte, reduceIte, reduceCtorEq, Y1, Y2, Y3, Y4, Y5, Y6, Y7, Y8, Y9, YA, zA, wN]
  unfold badD
  refine ⟨fun h => ret1E rfl rfl (settled_bool _) ?_, fun h => ret1E rfl rfl (settled_bool _) ?_⟩ <;> simp [AS.get, h]
theorem ivalid_fn (neg : Bool) (d : List Int) (hl : d.length < 4611686018427387904) : Fn Tryz.prog 169 [zR neg d] (.bool (validZ neg d)) := by
  have c1 : Fn Tryz.prog 224 [ints d, .fn 225 []] (.bool (d.any badD)) := containsf_fn d _ [] badD hl (by simp) fun x _ => valid1_fn x
  obtain ⟨V, hV⟩ : ∃ V, V = validZ neg d := ⟨_, rfl⟩
  rw [← hV]
  unfold validZ at hV
  have fin : ∀ {s : AS} {v : Bool}, s.get 2 = .bool v → v = V → RetOk (envP Tryz.prog Tryz.f169 [] [] (.bool V)) s := fun h e => ret1E rfl h (settled_bool _) (by rw [e])
  by_cases h0 : d.length = 0
  · have f1 : (d.length = 0) = True := eq_true h0
    have f2 : ((d.length : Int) = 0) = True := eq_true (by omega)
    have f3 : (0 < d.length) = False := eq_false (by omega)
    have f4 : (0 < (d.length : Int)) = False := eq_false (by omega)
    rw [if_pos h0] at hV
    refine Fn.intro (fn := Tryz.f169) Tryz.call169 Tryz.func169 rfl mixed 3 [] [] [] (by kernel_rfl) (Nat.le_of_ble_eq_true rfl) (by simp [settled_zR]) (vc_soundN 1000 ?_)
    simp only [AS.start, zR, f1, f2, f3, f4, ↓wPre, wA, ↓reduceIte, reduceIte, reduceCtorEq, Y1, Y2, Y3, Y4, Y5, Y6, Y7, Y8, Y9, YA, zA, wN]
    refine call_fn c1 rfl ?_
    cases neg
    all_goals
      simp only [f1, f2, f3, f4, ↓wPre, wA, ↓reduceIte, reduceIte, reduceCtorEq, Y1, Y2, Y3, Y4, Y5, Y6, Y7, Y8, Y9, YA, zA, wN]
      refine guardP_intro (fun h => fin rfl ?_) (fun h => fin rfl ?_)
      all_goals rw [hV, h]; rfl
  · have f1 : (d.length = 0) = False := eq_false h0
    have f2 : ((d.length : Int) = 0) = False := eq_false (by omega)
    have f3 : (0 < d.length) = True := eq_true (by omega)
    have f4 : (0 < (d.length : Int)) = True := eq_true (by omega)
    have w1 : IntKind.i64.wrap ((d.length : Int) - 1) = ((d.length - 1 : Nat) : Int) := by rw [IntKind.wrap_i64]; omega
    have f5 : (d.length - 1 < d.length) = True := eq_true (by omega)
    rw [if_neg h0] at hV
    refine Fn.intro (fn := Tryz.f169) Tryz.call169 Tryz.func169 rfl mixed 3 [] [] [] (by kernel_rfl) (Nat.le_of_ble_eq_true rfl) (by simp [settled_zR]) (vc_soundN 1000 ?_)
    simp only [AS.start, zR, f1, f2, f3, f4, w1, f5, Int.toNat_natCast, ↓wPre, wA, ↓reduceIte, reduceIte, reduceCtorEq, Y1, Y2, Y3, Y4, Y5, Y6, Y7, Y8, Y9, YA, zA, wN]
    refine call_fn c1 rfl ?_
    simp only [f1, f2, f3, f4, w1, f5, Int.toNat_natCast, ↓wPre, wA, ↓reduceIte, reduceIte, reduceCtorEq, Y1, Y2, Y3, Y4, Y5, Y6, Y7, Y8, Y9, YA, zA, wN]
    refine guardP_intro (fun h => fin rfl ?_) (fun h => fin rfl ?_)
    all_goals rw [hV, h]; simp
/-- 1, of raw integers. -/
theorem unit_fn (neg : Bool) (d : List Int) : Fn Tryz.prog 170 [zR neg d] (.bool (!neg && decide (d = [1]))) := by
  have hone : (d = [1]) ↔ d.length = 1 ∧ d.getD 0 0 = 1 := by
    constructor
    · rintro rfl; exact ⟨rfl, rfl⟩
    · rintro ⟨h1, h2⟩
      obtain ⟨x, rfl⟩ := List.length_eq_one_iff.1 h1
      rw [show x = 1 from h2]
  obtain ⟨V, hV⟩ : ∃ V, V = (!neg && decide (d = [1])) := ⟨_, rfl⟩
  rw [← hV]
  have fin : ∀ {s : AS} {v : Bool}, s.get 2 = .bool v → v = V → RetOk (envP Tryz.prog Tryz.f170 [] [] (.bool V)) s := fun h e => ret1E rfl h (settled_bool _) (by rw [e])
  by_cases h0 : d.length = 1
  · have f1 : (d.length = 1) = True := eq_true h0
    have f2 : ((d.length : Int) = 1) = True := eq_true (by omega)
    have f3 : (0 < d.length) = True := eq_true (by omega)
    have f4 : (0 < (d.length : Int)) = True := eq_true (by omega)
    refine Fn.intro (fn := Tryz.f170) Tryz.call170 Tryz.func170 rfl mixed 3 [] [] [] (by kernel_rfl) (Nat.le_of_ble_eq_true rfl) (by simp [settled_zR]) (vc_soundN 1000 ?_)
    cases neg
    all_goals
      simp only [AS.start, zR, f1, f2, f3, f4, ↓wPre, wA, ↓reduceIte, reduceIte, reduceCtorEq, Y1, Y2, Y3, Y4, Y5, Y6, Y7, Y8, Y9, YA, zA, wN]
      exact fin rfl (by rw [hV]; simp [hone, h0])
  · have f1 : (d.length = 1) = False := eq_false h0
    have f2 : ((d.length : Int) = 1) = False := eq_false (by omega)
    have hne : ¬ d = [1] := fun h => h0 (hone.1 h).1
    refine Fn.intro (fn := Tryz.f170) Tryz.call170 Tryz.func170 rfl mixed 3 [] [] [] (by kernel_rfl) (Nat.le_of_ble_eq_true rfl) (by simp [settled_zR]) (vc_soundN 1000 ?_)
    cases neg
    all_goals
      simp only [AS.start, zR, f1, f2, ↓wPre, wA, ↓reduceIte, reduceIte, reduceCtorEq, Y1, Y2, Y3, Y4, Y5, Y6, Y7, Y8, Y9, YA, zA, wN]
      exact fin rfl (by rw [hV]; simp [hne])
theorem unit_z (z : Int) : (!(decide (z < 0)) && decide (digs z.natAbs = [1])) = decide (z = 1) := by
  have h1 : digs z.natAbs = [1] ↔ z.natAbs = 1 := by
    constructor
    · intro h
      have := digs_val z.natAbs
      rw [h] at this
      simp [val] at this; omega
    · intro h; rw [h, digs_one (by omega) (by omega)]; rfl
  by_cases h : z < 0
  · simp [h]; omega
  · simp only [h, decide_false, Bool.not_false, Bool.true_and, decide_eq_decide, h1]; omega
theorem unitz_fn (z : Int) : Fn Tryz.prog 170 [zA z] (.bool (decide (z = 1))) := by
  have := unit_fn (decide (z < 0)) (digs z.natAbs)
  rw [unit_z] at this; exact this
theorem one_fn : Fn Tryz.prog 210 [] (zA 1) := by
  refine Fn.intro (fn := Tryz.f210) Tryz.call210 Tryz.func210 rfl mixed 1 [] [] [] (by kernel_rfl) (Nat.le_of_ble_eq_true rfl) (by simp [settled_ints, settled_I, settled_fn0, settled_intss, settled_bool, settled_nil, settled_zA, settled_ofA, settled_int]) (vc_soundN 1000 ?_); simp (config := { maxSteps := 2000000 }) only [AS.start, ↓wPre, wA, ↓reduceIte, reduceIte, reduceCtorEq, Y1, Y2, Y3, Y4, Y5, Y6, Y7, Y8, Y9, YA, zA, wN]
  refine call_fn (oof_fn 1 ⟨by omega, by omega⟩) rfl ?_
  simp only [↓wPre, wA, ↓reduceIte, reduceIte, reduceCtorEq, Y1, Y2, Y3, Y4, Y5, Y6, Y7, Y8, Y9, YA, zA, wN]
  exact retRefE rfl ldk26 rfl rfl rfl rfl (settled_zA _) ⟨Weak.rfl' _, Weak.rfl' _, trivial⟩
theorem icompare_fn (x y : Int) (hx : bl x < 1000000000) (hy : bl y < 1000000000) : Fn Tryz.prog 156 [zA x, zA y] (I (x - y).sign) := by
  unfold bl at hx hy
  have c1 := compare_fn (digs x.natAbs) (digs y.natAbs) (digs_canon _) (digs_canon _) (by omega)
  have c2 := compare_fn (digs y.natAbs) (digs x.natAbs) (digs_canon _) (digs_canon _) (by omega)
  rw [digs_val, digs_val] at c1 c2
  obtain ⟨V, hV⟩ : ∃ V, V = (x - y).sign := ⟨_, rfl⟩
  rw [← hV]
  have fin : ∀ {s : AS} {v : Int}, s.get 4 = I v → v = V → RetOk (envP Tryz.prog Tryz.f156 [] [] (I V)) s := fun h e => ret1E rfl h (settled_I _) (by rw [e])
  by_cases h1 : x < 0 <;> by_cases h2 : y < 0
  · have f1 : (x < 0) = True := eq_true h1
    have f2 : (y < 0) = True := eq_true h2
    refine Fn.intro (fn := Tryz.f156) Tryz.call156 Tryz.func156 rfl mixed 5 [] [] [] (by kernel_rfl) (Nat.le_of_ble_eq_true rfl) (by simp [settled_ints, settled_I, settled_fn0, settled_intss, settled_bool, settled_nil, settled_zA, settled_ofA, settled_int]) (vc_soundN 1000 ?_); simp (config := { maxSteps := 2000000 }) only [AS.start, ↓wPre, wA, ↓reduceIte, reduceIte, reduceCtorEq, Y1, Y2, Y3, Y4, Y5, Y6, Y7, Y8, Y9, YA, zA, wN]
    simp only [f1, f2, ↓wPre, wA, ↓reduceIte, reduceIte, reduceCtorEq, Y1, Y2, Y3, Y4, Y5, Y6, Y7, Y8, Y9, YA, zA, wN]
    refine call_fn c2 rfl ?_
    simp only [↓wPre, wA, ↓reduceIte, reduceIte, reduceCtorEq, Y1, Y2, Y3, Y4, Y5, Y6, Y7, Y8, Y9, YA, zA, wN]
    exact fin rfl (by rw [hV]; congr 1; omega)
  · have f1 : (x < 0) = True := eq_true h1
    have f2 : (y < 0) = False := eq_false h2
    refine Fn.intro (fn := Tryz.f156) Tryz.call156 Tryz.func156 rfl mixed 5 [] [] [] (by kernel_rfl) (Nat.le_of_ble_eq_true rfl) (by simp [settled_ints, settled_I, settled_fn0, settled_intss, settled_bool, settled_nil, settled_zA, settled_ofA, settled_int]) (vc_soundN 1000 ?_); simp (config := { maxSteps := 2000000 }) only [AS.start, ↓wPre, wA, ↓reduceIte, reduceIte, reduceCtorEq, Y1, Y2, Y3, Y4, Y5, Y6, Y7, Y8, Y9, YA, zA, wN]
    simp only [f1, f2, ↓wPre, wA, ↓reduceIte, reduceIte, reduceCtorEq, Y1, Y2, Y3, Y4, Y5, Y6, Y7, Y8, Y9, YA, zA, wN]
    exact fin rfl (by rw [hV, Int.sign_eq_neg_one_of_neg (by omega)])
  · have f1 : (x < 0) = False := eq_false h1
    have f2 : (y < 0) = True := eq_true h2
    refine Fn.intro (fn := Tryz.f156) Tryz.call156 Tryz.func156 rfl mixed 5 [] [] [] (by kernel_rfl) (Nat.le_of_ble_eq_true rfl) (by simp [settled_ints, settled_I, settled_fn0, settled_intss, settled_bool, settled_nil, settled_zA, settled_ofA, settled_int]) (vc_soundN 1000 ?_); simp (config := { maxSteps := 2000000 }) only [AS.start, ↓wPre, wA, ↓reduceIte, reduceIte, reduceCtorEq, Y1, Y2, Y3, Y4, Y5, Y6, Y7, Y8, Y9, YA, zA, wN]
    simp only [f1, f2, ↓wPre, wA, ↓reduceIte, reduceIte, reduceCtorEq, Y1, Y2, Y3, Y4, Y5, Y6, Y7, Y8, Y9, YA, zA, wN]
    exact fin rfl (by rw [hV, Int.sign_eq_one_of_pos (by omega)])
  · have f1 : (x < 0) = False := eq_false h1
    have f2 : (y < 0) = False := eq_false h2
    refine Fn.intro (fn := Tryz.f156) Tryz.call156 Tryz.func156 rfl mixed 5 [] [] [] (by kernel_rfl) (Nat.le_of_ble_eq_true rfl) (by simp [settled_ints, settled_I, settled_fn0, settled_intss, settled_bool, settled_nil, settled_zA, settled_ofA, settled_int]) (vc_soundN 1000 ?_); simp (config := { maxSteps := 2000000 }) only [AS.start, ↓wPre, wA, ↓reduceIte, reduceIte, reduceCtorEq, Y1, Y2, Y3, Y4, Y5, Y6, Y7, Y8, Y9, YA, zA, wN]
    simp only [f1, f2, ↓wPre, wA, ↓reduceIte, reduceIte, reduceCtorEq, Y1, Y2, Y3, Y4, Y5, Y6, Y7, Y8, Y9, YA, zA, wN]
    refine call_fn c1 rfl ?_
    simp only [↓wPre, wA, ↓reduceIte, reduceIte, reduceCtorEq, Y1, Y2, Y3, Y4, Y5, Y6, Y7, Y8, Y9, YA, zA, wN]
    exact fin rfl (by rw [hV]; congr 1; omega)
end
end Go.Ab.N
namespace Go.Ab.N
open Go Go.RowKit Go.Proofs
noncomputable section
set_option maxRecDepth 10000
set_option maxHeartbeats 2000000
open Classical

theorem retA {P : Program} {fn : Func} {str hcs : List Nat} {r : AV} {s : AS} {t u id ver n : Nat} {L : List AV} (hr : fn.results = #[.cell t u]) (hk : ldk P u = some (some n)) (hs : s.get t = .ref id ver 0)
    (ho : s.h[id]? = some (.row ver n (ofL L))) (hn : L.length = n) (hset : Settled r) (e : r = .agg L) : RetOk (envP P fn str hcs r) s := retRefE hr hk hs ho hn e hset (weakL_rfl L)
theorem qd_len (r : Rat) : (digs (qd r)).length = 0 ↔ r.den = 1 := by
  rw [digs_len_zero]; unfold qd
  have := r.den_nz
  split <;> omega
theorem qd_one {r : Rat} (h : r.den = 1) : digs (qd r) = [] := by unfold qd; rw [if_pos h, digs_zero]
theorem qd_ne {r : Rat} (h : ¬ r.den = 1) : digs (qd r) = digs r.den := by unfold qd; rw [if_neg h]
theorem qA_int {r : Rat} (h : r.den = 1) : qA r = .agg [.bool (decide (r.num < 0)), ints (digs r.num.natAbs), .bool false, ints []] := by unfold qA qC; rw [qd_one h]
theorem qA_frac {r : Rat} (h : ¬ r.den = 1) : qA r = .agg [.bool (decide (r.num < 0)), ints (digs r.num.natAbs), .bool false, ints (digs r.den)] := by unfold qA qC; rw [qd_ne h]
theorem num_len (r : Rat) : (digs r.num.natAbs).length = 0 ↔ r = 0 := by
  rw [digs_len_zero, ← Rat.num_eq_zero]; omega
theorem zA_den (r : Rat) : zA r.den = .agg [.bool false, ints (digs r.den)] := zA_nat _
theorem den_fn (r : Rat) : Fn Tryz.prog 146 [qA r] (zA r.den) := by
  obtain ⟨R, hR⟩ : ∃ R, R = zA r.den := ⟨_, rfl⟩
  have sR : Settled R := hR ▸ settled_zA _
  rw [← hR]
  rw [zA_den] at hR
  by_cases h : r.den = 1
  · have f1 : ((digs (qd r)).length = 0) = True := eq_true ((qd_len r).2 h)
    have f2 : (((digs (qd r)).length : Int) = 0) = True := eq_true (by have := (qd_len r).2 h; omega)
    refine Fn.intro (fn := Tryz.f146) Tryz.call146 Tryz.func146 rfl mixed 3 [] [] [] (by kernel_rfl) (Nat.le_of_ble_eq_true rfl) (by simp [settled_ints, settled_I, settled_fn0, settled_intss, settled_bool, settled_nil, settled_zA, settled_qA, settled_zR, settled_ofA, settled_int]) (vc_soundN 1000 ?_); simp (config := { maxSteps := 2000000 }) only [AS.start, ↓wPre, wA, ↓reduceIte, reduceIte, reduceCtorEq, Y1, Y2, Y3, Y4, Y5, Y6, Y7, Y8, Y9, YA, zA, qA, qC, wN]
    simp only [f1, f2, ↓wPre, wA, ↓reduceIte, reduceIte, reduceCtorEq, Y1, Y2, Y3, Y4, Y5, Y6, Y7, Y8, Y9, YA, zA, qA, qC, wN]
    refine call_fn one_fn rfl ?_
    simp only [↓wPre, wA, ↓reduceIte, reduceIte, reduceCtorEq, Y1, Y2, Y3, Y4, Y5, Y6, Y7, Y8, Y9, YA, zA, qA, qC, wN]
    exact retA rfl ldk26 rfl rfl rfl sR (by rw [hR, h]; rfl)
  · have f1 : ((digs (qd r)).length = 0) = False := eq_false fun e => h ((qd_len r).1 e)
    have f2 : (((digs (qd r)).length : Int) = 0) = False := eq_false fun e => h ((qd_len r).1 (by omega))
    refine Fn.intro (fn := Tryz.f146) Tryz.call146 Tryz.func146 rfl mixed 3 [] [] [] (by kernel_rfl) (Nat.le_of_ble_eq_true rfl) (by simp [settled_ints, settled_I, settled_fn0, settled_intss, settled_bool, settled_nil, settled_zA, settled_qA, settled_zR, settled_ofA, settled_int]) (vc_soundN 1000 ?_); simp (config := { maxSteps := 2000000 }) only [AS.start, ↓wPre, wA, ↓reduceIte, reduceIte, reduceCtorEq, Y1, Y2, Y3, Y4, Y5, Y6, Y7, Y8, Y9, YA, zA, qA, qC, wN]
    simp only [f1, f2, ↓wPre, wA, ↓reduceIte, reduceIte, reduceCtorEq, Y1, Y2, Y3, Y4, Y5, Y6, Y7, Y8, Y9, YA, zA, qA, qC, wN]
    exact retA rfl ldk26 rfl rfl rfl sR (by rw [hR, qd_ne h]; rfl)
theorem zA_lt {z : Int} (h : z < 0) : zA z = .agg [.bool true, ints (digs z.natAbs)] := by unfold zA; rw [decide_eq_true h]
theorem zA_ge {z : Int} (h : ¬ z < 0) : zA z = .agg [.bool false, ints (digs z.natAbs)] := by unfold zA; rw [decide_eq_false h]
theorem lowest_fn (p q : Int) (hq : q ≠ 0) (hg : Int.gcd p q = 1) : Fn Tryz.prog 147 [zA p, zA q] (qA (Rat.divInt p q)) := by
  obtain ⟨e1, e2⟩ := divInt_low p q hq hg
  obtain ⟨R, hR⟩ : ∃ R, R = qA (Rat.divInt p q) := ⟨_, rfl⟩
  have sR : Settled R := hR ▸ settled_qA _
  rw [← hR]
  -- what is said of the signed parts
  have key : ∀ p' q' : Int, p' = q.sign * p → q' = q.natAbs → (q' = 1 → R = .agg [.bool (decide (p' < 0)), ints (digs p'.natAbs), .bool false, ints []]) ∧ (¬ q' = 1 → R = .agg [.bool (decide (p' < 0)), ints (digs p'.natAbs), .bool false, ints (digs q'.natAbs)]) := by
    intro p' q' hp' hq'
    constructor
    · intro h
      rw [hR, qA_int (by omega), e1, hp']
    · intro h
      rw [hR, qA_frac (by omega), e1, hp', e2, hq', Int.natAbs_natCast]
  by_cases h : q < 0
  · have f1 : (q < 0) = True := eq_true h
    obtain ⟨k1, k2⟩ := key (-p) (-q) (by rw [Int.sign_eq_neg_one_of_neg h]; omega) (by omega)
    have cu := unitz_fn (-q)
    have cn := neg_fn q
    rw [zA_lt h] at cn
    have f5 : decide (-q < 0) = false := decide_eq_false (by omega)
    by_cases h1 : -q = 1
    · simp only [h1, decide_true] at cu
      have hk := k1 h1
      refine Fn.intro (fn := Tryz.f147) Tryz.call147 Tryz.func147 rfl mixed 5 [] [] [] (by kernel_rfl) (Nat.le_of_ble_eq_true rfl) (by simp [settled_ints, settled_I, settled_fn0, settled_intss, settled_bool, settled_nil, settled_zA, settled_qA, settled_zR, settled_ofA, settled_int]) (vc_soundN 1000 ?_); simp (config := { maxSteps := 2000000 }) only [AS.start, ↓wPre, wA, ↓reduceIte, reduceIte, reduceCtorEq, Y1, Y2, Y3, Y4, Y5, Y6, Y7, Y8, Y9, YA, zA, qA, qC, wN]
      simp only [f1, ↓wPre, wA, ↓reduceIte, reduceIte, reduceCtorEq, Y1, Y2, Y3, Y4, Y5, Y6, Y7, Y8, Y9, YA, zA, qA, qC, wN]
      refine call_fn (neg_fn p) rfl ?_
      simp only [f1, ↓wPre, wA, ↓reduceIte, reduceIte, reduceCtorEq, Y1, Y2, Y3, Y4, Y5, Y6, Y7, Y8, Y9, YA, zA, qA, qC, wN]
      refine call_fn cn rfl ?_
      simp only [f1, h1, ↓wPre, wA, ↓reduceIte, reduceIte, reduceCtorEq, Y1, Y2, Y3, Y4, Y5, Y6, Y7, Y8, Y9, YA, zA, qA, qC, wN]
      refine call_fn cu rfl ?_
      simp only [↓wPre, wA, ↓reduceIte, reduceIte, reduceCtorEq, Y1, Y2, Y3, Y4, Y5, Y6, Y7, Y8, Y9, YA, zA, qA, qC, wN]
      exact retRefE rfl ldk28 rfl rfl rfl hk sR ⟨Weak.rfl' _, Weak.rfl' _, Weak.rfl' _, weak_emp _ _, trivial⟩
    · simp only [h1, decide_false] at cu
      have hk := k2 h1
      refine Fn.intro (fn := Tryz.f147) Tryz.call147 Tryz.func147 rfl mixed 5 [] [] [] (by kernel_rfl) (Nat.le_of_ble_eq_true rfl) (by simp [settled_ints, settled_I, settled_fn0, settled_intss, settled_bool, settled_nil, settled_zA, settled_qA, settled_zR, settled_ofA, settled_int]) (vc_soundN 1000 ?_); simp (config := { maxSteps := 2000000 }) only [AS.start, ↓wPre, wA, ↓reduceIte, reduceIte, reduceCtorEq, Y1, Y2, Y3, Y4, Y5, Y6, Y7, Y8, Y9, YA, zA, qA, qC, wN]
      simp only [f1, ↓wPre, wA, ↓reduceIte, reduceIte, reduceCtorEq, Y1, Y2, Y3, Y4, Y5, Y6, Y7, Y8, Y9, YA, zA, qA, qC, wN]
      refine call_fn (neg_fn p) rfl ?_
      simp only [f1, ↓wPre, wA, ↓reduceIte, reduceIte, reduceCtorEq, Y1, Y2, Y3, Y4, Y5, Y6, Y7, Y8, Y9, YA, zA, qA, qC, wN]
      refine call_fn cn rfl ?_
      simp only [f1, ↓wPre, wA, ↓reduceIte, reduceIte, reduceCtorEq, Y1, Y2, Y3, Y4, Y5, Y6, Y7, Y8, Y9, YA, zA, qA, qC, wN]
      refine call_fn cu rfl ?_
      simp only [↓wPre, wA, ↓reduceIte, reduceIte, reduceCtorEq, Y1, Y2, Y3, Y4, Y5, Y6, Y7, Y8, Y9, YA, zA, qA, qC, wN]
      exact retA rfl ldk28 rfl rfl rfl sR (by rw [hk, f5]; rfl)
  · have f1 : (q < 0) = False := eq_false h
    obtain ⟨k1, k2⟩ := key p q (by rw [Int.sign_eq_one_of_pos (by omega)]; omega) (by omega)
    have cu := unitz_fn q
    rw [zA_ge h] at cu
    by_cases h1 : q = 1
    · simp only [h1, decide_true] at cu
      have hk := k1 h1
      subst h1
      refine Fn.intro (fn := Tryz.f147) Tryz.call147 Tryz.func147 rfl mixed 5 [] [] [] (by kernel_rfl) (Nat.le_of_ble_eq_true rfl) (by simp [settled_ints, settled_I, settled_fn0, settled_intss, settled_bool, settled_nil, settled_zA, settled_qA, settled_zR, settled_ofA, settled_int]) (vc_soundN 1000 ?_); simp (config := { maxSteps := 2000000 }) only [AS.start, ↓wPre, wA, ↓reduceIte, reduceIte, reduceCtorEq, Y1, Y2, Y3, Y4, Y5, Y6, Y7, Y8, Y9, YA, zA, qA, qC, wN]
      simp only [f1, ↓wPre, wA, ↓reduceIte, reduceIte, reduceCtorEq, Y1, Y2, Y3, Y4, Y5, Y6, Y7, Y8, Y9, YA, zA, qA, qC, wN]
      refine call_fn cu rfl ?_
      simp only [↓wPre, wA, ↓reduceIte, reduceIte, reduceCtorEq, Y1, Y2, Y3, Y4, Y5, Y6, Y7, Y8, Y9, YA, zA, qA, qC, wN]
      exact retRefE rfl ldk28 rfl rfl rfl hk sR ⟨Weak.rfl' _, Weak.rfl' _, Weak.rfl' _, weak_emp _ _, trivial⟩
    · simp only [h1, decide_false] at cu
      have hk := k2 h1
      refine Fn.intro (fn := Tryz.f147) Tryz.call147 Tryz.func147 rfl mixed 5 [] [] [] (by kernel_rfl) (Nat.le_of_ble_eq_true rfl) (by simp [settled_ints, settled_I, settled_fn0, settled_intss, settled_bool, settled_nil, settled_zA, settled_qA, settled_zR, settled_ofA, settled_int]) (vc_soundN 1000 ?_); simp (config := { maxSteps := 2000000 }) only [AS.start, ↓wPre, wA, ↓reduceIte, reduceIte, reduceCtorEq, Y1, Y2, Y3, Y4, Y5, Y6, Y7, Y8, Y9, YA, zA, qA, qC, wN]
      simp only [f1, ↓wPre, wA, ↓reduceIte, reduceIte, reduceCtorEq, Y1, Y2, Y3, Y4, Y5, Y6, Y7, Y8, Y9, YA, zA, qA, qC, wN]
      refine call_fn cu rfl ?_
      simp only [f1, ↓wPre, wA, ↓reduceIte, reduceIte, reduceCtorEq, Y1, Y2, Y3, Y4, Y5, Y6, Y7, Y8, Y9, YA, zA, qA, qC, wN]
      exact retA rfl ldk28 rfl rfl rfl sR (by rw [hk]; rfl)
end
end Go.Ab.N
namespace Go.Ab.N
open Go Go.RowKit Go.Proofs
noncomputable section
set_option maxRecDepth 10000
set_option maxHeartbeats 2000000
open Classical

theorem qA_zero : qA 0 = .agg [.bool false, ints [], .bool false, ints []] := by
  rw [qA_int (by rfl)]
  simp [digs_zero]
theorem make_fn (p q : Int) (hp : bl p < 1000000000) (hq : bl q < 1000000000) : Fn Tryz.prog 145 [zA p, zA q] (qA (Rat.divInt p q)) := by
  obtain ⟨R, hR⟩ : ∃ R, R = qA (Rat.divInt p q) := ⟨_, rfl⟩
  have sR : Settled R := hR ▸ settled_qA _
  have zp : ((digs p.natAbs).length = 0) = (p = 0) := propext (digs_len_zero.trans (by omega))
  have zq : ((digs q.natAbs).length = 0) = (q = 0) := propext (digs_len_zero.trans (by omega))
  have z0 : p = 0 ∨ q = 0 → R = .agg [.bool false, ints [], .bool false, ints []] := by
    intro h
    rw [hR, ← qA_zero]
    rcases h with rfl | rfl
    · rw [Rat.zero_divInt]
    · rw [Rat.divInt_zero]
  rw [← hR]
  by_cases hq0 : q = 0
  · have f1 : (q = 0) = True := eq_true hq0
    have f2 : (((digs q.natAbs).length : Int) = 0) = True := eq_true (by have h : (digs q.natAbs).length = 0 := (by rw [zq]; assumption); omega)
    refine Fn.intro (fn := Tryz.f145) Tryz.call145 Tryz.func145 rfl mixed 6 [] [] [] (by kernel_rfl) (Nat.le_of_ble_eq_true rfl) (by simp [settled_ints, settled_I, settled_fn0, settled_intss, settled_bool, settled_nil, settled_zA, settled_qA, settled_zR, settled_ofA, settled_int]) (vc_soundN 1000 ?_); simp (config := { maxSteps := 2000000 }) only [AS.start, ↓wPre, wA, ↓reduceIte, reduceIte, reduceCtorEq, Y1, Y2, Y3, Y4, Y5, Y6, Y7, Y8, Y9, YA, zA, qA, qC, wN]
    simp only [zq, f1, f2, ↓wPre, wA, ↓reduceIte, reduceIte, reduceCtorEq, Y1, Y2, Y3, Y4, Y5, Y6, Y7, Y8, Y9, YA, zA, qA, qC, wN]
    exact retRefE rfl ldk28 rfl rfl rfl (z0 (.inr hq0)) sR ⟨Weak.rfl' _, weak_emp _ _, Weak.rfl' _, weak_emp _ _, trivial⟩
  have f1 : (q = 0) = False := eq_false hq0
  have f2 : (((digs q.natAbs).length : Int) = 0) = False := eq_false (fun e => hq0 (by rw [← zq]; omega))
  by_cases hp0 : p = 0
  · have f3 : (p = 0) = True := eq_true hp0
    have f4 : (((digs p.natAbs).length : Int) = 0) = True := eq_true (by have h : (digs p.natAbs).length = 0 := (by rw [zp]; assumption); omega)
    refine Fn.intro (fn := Tryz.f145) Tryz.call145 Tryz.func145 rfl mixed 6 [] [] [] (by kernel_rfl) (Nat.le_of_ble_eq_true rfl) (by simp [settled_ints, settled_I, settled_fn0, settled_intss, settled_bool, settled_nil, settled_zA, settled_qA, settled_zR, settled_ofA, settled_int]) (vc_soundN 1000 ?_); simp (config := { maxSteps := 2000000 }) only [AS.start, ↓wPre, wA, ↓reduceIte, reduceIte, reduceCtorEq, Y1, Y2, Y3, Y4, Y5, Y6, Y7, Y8, Y9, YA, zA, qA, qC, wN]
    simp only [zp, zq, f1, f2, f3, f4, ↓wPre, wA, ↓reduceIte, reduceIte, reduceCtorEq, Y1, Y2, Y3, Y4, Y5, Y6, Y7, Y8, Y9, YA, zA, qA, qC, wN]
    exact retRefE rfl ldk28 rfl rfl rfl (z0 (.inl hp0)) sR ⟨Weak.rfl' _, weak_emp _ _, Weak.rfl' _, weak_emp _ _, trivial⟩
  have f3 : (p = 0) = False := eq_false hp0
  have f4 : (((digs p.natAbs).length : Int) = 0) = False := eq_false (fun e => hp0 (by rw [← zp]; omega))
  have cg := gcd_fn p q hp hq
  have cu := unitz_fn (Int.gcd p q)
  obtain ⟨g, hg⟩ : ∃ g : Int, g = Int.gcd p q := ⟨_, rfl⟩
  have hg0 : 0 < Int.gcd p q := Int.gcd_pos_of_ne_zero_right _ hq0
  have hgq : bl g ≤ bl q := bl_mono (by
    have := Nat.le_of_dvd (by omega) (Int.gcd_dvd_natAbs_right p q)
    omega)
  rw [← hg] at cg cu
  by_cases h1 : g = 1
  · have cl := lowest_fn p q hq0 (by omega)
    rw [hR]
    rw [h1] at cg cu
    simp only [decide_true] at cu
    obtain ⟨R', hR'⟩ : ∃ R', R' = qA (Rat.divInt p q) := ⟨_, rfl⟩
    rw [← hR'] at cl ⊢
    have sR' : Settled R' := hR' ▸ settled_qA _
    refine Fn.intro (fn := Tryz.f145) Tryz.call145 Tryz.func145 rfl mixed 6 [] [] [] (by kernel_rfl) (Nat.le_of_ble_eq_true rfl) (by simp [settled_ints, settled_I, settled_fn0, settled_intss, settled_bool, settled_nil, settled_zA, settled_qA, settled_zR, settled_ofA, settled_int]) (vc_soundN 1000 ?_); simp (config := { maxSteps := 2000000 }) only [AS.start, ↓wPre, wA, ↓reduceIte, reduceIte, reduceCtorEq, Y1, Y2, Y3, Y4, Y5, Y6, Y7, Y8, Y9, YA, zA, qA, qC, wN]
    simp only [zp, zq, f1, f2, f3, f4, ↓wPre, wA, ↓reduceIte, reduceIte, reduceCtorEq, Y1, Y2, Y3, Y4, Y5, Y6, Y7, Y8, Y9, YA, zA, qA, qC, wN]
    refine call_fn cg rfl ?_
    simp only [↓wPre, wA, ↓reduceIte, reduceIte, reduceCtorEq, Y1, Y2, Y3, Y4, Y5, Y6, Y7, Y8, Y9, YA, zA, qA, qC, wN]
    refine call_fn cu rfl ?_
    simp only [↓wPre, wA, ↓reduceIte, reduceIte, reduceCtorEq, Y1, Y2, Y3, Y4, Y5, Y6, Y7, Y8, Y9, YA, zA, qA, qC, wN]
    refine call_fn cl rfl ?_
    simp only [hR', ↓wPre, wA, ↓reduceIte, reduceIte, reduceCtorEq, Y1, Y2, Y3, Y4, Y5, Y6, Y7, Y8, Y9, YA, zA, qA, qC, wN]
    exact retA rfl ldk28 rfl rfl rfl sR' (hR'.trans rfl)
  · obtain ⟨d1, d2, d3⟩ := divInt_of_parts p q hq0 g hg
    have cl := lowest_fn (p / g) (q / g) d3 d2
    rw [d1, ← hR] at cl
    simp only [h1, decide_false] at cu
    have c1 := div_fn p g hp (by omega) (by omega)
    have c2 := div_fn q g hq (by omega) (by omega)
    refine Fn.intro (fn := Tryz.f145) Tryz.call145 Tryz.func145 rfl mixed 6 [] [] [] (by kernel_rfl) (Nat.le_of_ble_eq_true rfl) (by simp [settled_ints, settled_I, settled_fn0, settled_intss, settled_bool, settled_nil, settled_zA, settled_qA, settled_zR, settled_ofA, settled_int]) (vc_soundN 1000 ?_); simp (config := { maxSteps := 2000000 }) only [AS.start, ↓wPre, wA, ↓reduceIte, reduceIte, reduceCtorEq, Y1, Y2, Y3, Y4, Y5, Y6, Y7, Y8, Y9, YA, zA, qA, qC, wN]
    simp only [zp, zq, f1, f2, f3, f4, ↓wPre, wA, ↓reduceIte, reduceIte, reduceCtorEq, Y1, Y2, Y3, Y4, Y5, Y6, Y7, Y8, Y9, YA, zA, qA, qC, wN]
    refine call_fn cg rfl ?_
    simp only [↓wPre, wA, ↓reduceIte, reduceIte, reduceCtorEq, Y1, Y2, Y3, Y4, Y5, Y6, Y7, Y8, Y9, YA, zA, qA, qC, wN]
    refine call_fn cu rfl ?_
    simp only [↓wPre, wA, ↓reduceIte, reduceIte, reduceCtorEq, Y1, Y2, Y3, Y4, Y5, Y6, Y7, Y8, Y9, YA, zA, qA, qC, wN]
    refine call_fn c1 rfl ?_
    simp only [↓wPre, wA, ↓reduceIte, reduceIte, reduceCtorEq, Y1, Y2, Y3, Y4, Y5, Y6, Y7, Y8, Y9, YA, zA, qA, qC, wN]
    refine call_fn c2 rfl ?_
    simp only [↓wPre, wA, ↓reduceIte, reduceIte, reduceCtorEq, Y1, Y2, Y3, Y4, Y5, Y6, Y7, Y8, Y9, YA, zA, qA, qC, wN]
    refine call_fn cl rfl ?_
    simp only [hR, ↓wPre, wA, ↓reduceIte, reduceIte, reduceCtorEq, Y1, Y2, Y3, Y4, Y5, Y6, Y7, Y8, Y9, YA, zA, qA, qC, wN]
    exact retA rfl ldk28 rfl rfl rfl sR (hR.trans rfl)
theorem bl_i64 {n : Int} (h : in64 n) : bl n ≤ 3 := bl_le (by unfold in64 at h; simp only [pw]; omega)
theorem rof_fn (p q : Int) (hp : in64 p) (hq : in64 q) : Fn Tryz.prog 57 [I p, I q] (qA (Rat.divInt p q)) := by
  obtain ⟨R, hR⟩ : ∃ R, R = qA (Rat.divInt p q) := ⟨_, rfl⟩
  have sR : Settled R := hR ▸ settled_qA _
  have cm := make_fn p q (by have := bl_i64 hp; omega) (by have := bl_i64 hq; omega)
  rw [← hR] at cm ⊢
  refine Fn.intro (fn := Tryz.f57) Tryz.call57 Tryz.func57 rfl mixed 5 [] [] [] (by kernel_rfl) (Nat.le_of_ble_eq_true rfl) (by simp [settled_ints, settled_I, settled_fn0, settled_intss, settled_bool, settled_nil, settled_zA, settled_qA, settled_zR, settled_ofA, settled_int]) (vc_soundN 1000 ?_); simp (config := { maxSteps := 2000000 }) only [AS.start, ↓wPre, wA, ↓reduceIte, reduceIte, reduceCtorEq, Y1, Y2, Y3, Y4, Y5, Y6, Y7, Y8, Y9, YA, zA, qA, qC, wN]
  refine call_fn (oof_fn p hp) rfl ?_
  simp only [↓wPre, wA, ↓reduceIte, reduceIte, reduceCtorEq, Y1, Y2, Y3, Y4, Y5, Y6, Y7, Y8, Y9, YA, zA, qA, qC, wN]
  refine call_fn (oof_fn q hq) rfl ?_
  simp only [↓wPre, wA, ↓reduceIte, reduceIte, reduceCtorEq, Y1, Y2, Y3, Y4, Y5, Y6, Y7, Y8, Y9, YA, zA, qA, qC, wN]
  refine call_fn cm rfl ?_
  simp only [hR, ↓wPre, wA, ↓reduceIte, reduceIte, reduceCtorEq, Y1, Y2, Y3, Y4, Y5, Y6, Y7, Y8, Y9, YA, zA, qA, qC, wN]
  exact retA rfl ldk28 rfl rfl rfl sR (hR.trans rfl)
theorem rsign_fn (r : Rat) : Fn Tryz.prog 66 [qA r] (I r.num.sign) := by
  refine Fn.intro (fn := Tryz.f66) Tryz.call66 Tryz.func66 rfl mixed 3 [] [] [] (by kernel_rfl) (Nat.le_of_ble_eq_true rfl) (by simp [settled_ints, settled_I, settled_fn0, settled_intss, settled_bool, settled_nil, settled_zA, settled_qA, settled_zR, settled_ofA, settled_int]) (vc_soundN 1000 ?_); simp (config := { maxSteps := 2000000 }) only [AS.start, ↓wPre, wA, ↓reduceIte, reduceIte, reduceCtorEq, Y1, Y2, Y3, Y4, Y5, Y6, Y7, Y8, Y9, YA, zA, qA, qC, wN]
  refine call_fn (sign_fn r.num) rfl ?_
  simp only [↓wPre, wA, ↓reduceIte, reduceIte, reduceCtorEq, Y1, Y2, Y3, Y4, Y5, Y6, Y7, Y8, Y9, YA, zA, qA, qC, wN]
  exact ret1E rfl rfl (settled_I _) rfl
theorem rneg_fn (r : Rat) : Fn Tryz.prog 118 [qA r] (qA (-r)) := by
  obtain ⟨R, hR⟩ : ∃ R, R = qA (-r) := ⟨_, rfl⟩
  have sR : Settled R := hR ▸ settled_qA _
  have e : R = .agg [.bool (decide (-r.num < 0)), ints (digs (-r.num).natAbs), .bool false, ints (digs (qd r))] := by rw [hR]; rfl
  rw [← hR]
  refine Fn.intro (fn := Tryz.f118) Tryz.call118 Tryz.func118 rfl mixed 3 [] [] [] (by kernel_rfl) (Nat.le_of_ble_eq_true rfl) (by simp [settled_ints, settled_I, settled_fn0, settled_intss, settled_bool, settled_nil, settled_zA, settled_qA, settled_zR, settled_ofA, settled_int]) (vc_soundN 1000 ?_); simp (config := { maxSteps := 2000000 }) only [AS.start, ↓wPre, wA, ↓reduceIte, reduceIte, reduceCtorEq, Y1, Y2, Y3, Y4, Y5, Y6, Y7, Y8, Y9, YA, zA, qA, qC, wN]
  refine call_fn (neg_fn r.num) rfl ?_
  simp only [↓wPre, wA, ↓reduceIte, reduceIte, reduceCtorEq, Y1, Y2, Y3, Y4, Y5, Y6, Y7, Y8, Y9, YA, zA, qA, qC, wN]
  exact retA rfl ldk28 rfl rfl rfl sR (e.trans rfl)
end
end Go.Ab.N
namespace Go.Ab.N
open Go Go.RowKit Go.Proofs
noncomputable section
set_option maxRecDepth 10000
set_option maxHeartbeats 2000000
open Classical

def rm : Nat := 100000000
theorem rat_int {a : Rat} (h : a.den = 1) : a = ((a.num : Int) : Rat) := Rat.ext (by rw [Rat.num_intCast]) (by rw [h, Rat.den_intCast])
theorem add_int {a b : Rat} (ha : a.den = 1) (hb : b.den = 1) : (a + b).num = a.num + b.num ∧ (a + b).den = 1 := by
  rw [rat_int ha, rat_int hb, ← Rat.intCast_add]
  exact ⟨Rat.num_intCast _, Rat.den_intCast _⟩
theorem mul_int {a b : Rat} (ha : a.den = 1) (hb : b.den = 1) : (a * b).num = a.num * b.num ∧ (a * b).den = 1 := by
  rw [rat_int ha, rat_int hb, ← Rat.intCast_mul]
  exact ⟨Rat.num_intCast _, Rat.den_intCast _⟩
theorem ne_len {r : Rat} (h : ¬ r = 0) : ((digs r.num.natAbs).length = 0) = False := eq_false fun e => h ((num_len r).1 e)
theorem qd_lenI (r : Rat) : (((digs (qd r)).length : Int) = 0) = (r.den = 1) := propext (by rw [← qd_len]; omega)
theorem num_lenI (r : Rat) : (((digs r.num.natAbs).length : Int) = 0) = (r = 0) := propext (by rw [← num_len]; omega)
theorem radd_fn (a b : Rat) (ha : qb a ≤ rm) (hb : qb b ≤ rm) : Fn Tryz.prog 70 [qA a, qA b] (qA (a + b)) := by
  unfold rm at ha hb
  have a1 := qb_num a; have a2 := qb_den a; have b1 := qb_num b; have b2 := qb_den b
  obtain ⟨R, hR⟩ : ∃ R, R = qA (a + b) := ⟨_, rfl⟩
  have sR : Settled R := hR ▸ settled_qA _
  have la := qd_lenI a
  have lb := qd_lenI b
  have na := num_lenI a
  have nb := num_lenI b
  rw [← hR]
  by_cases hi : a.den = 1 ∧ b.den = 1
  · have f1 : (a.den = 1) = True := eq_true hi.1
    have f2 : (b.den = 1) = True := eq_true hi.2
    obtain ⟨e1, e2⟩ := add_int hi.1 hi.2
    have hR' := hR.trans (qA_int e2)
    rw [e1] at hR'
    refine Fn.intro (fn := Tryz.f70) Tryz.call70 Tryz.func70 rfl mixed 7 [] [7, 80000002, 80000003] [] (by kernel_rfl) (Nat.le_of_ble_eq_true rfl) (by simp [settled_ints, settled_I, settled_fn0, settled_intss, settled_bool, settled_nil, settled_zA, settled_qA, settled_zR, settled_ofA, settled_int]) (vc_soundN 1000 ?_); simp (config := { maxSteps := 2000000 }) only [AS.start, ↓wPre, wA, ↓reduceIte, reduceIte, reduceCtorEq, Y1, Y2, Y3, Y4, Y5, Y6, Y7, Y8, Y9, YA, zA, qA, qC, wN]
    simp only [la, lb, f1, f2, ↓wPre, wA, ↓reduceIte, reduceIte, reduceCtorEq, Y1, Y2, Y3, Y4, Y5, Y6, Y7, Y8, Y9, YA, zA, qA, qC, wN]
    refine call_fn (add_fn a.num b.num (by unfold room; omega) (by unfold room; omega)) rfl ?_
    simp only [↓wPre, wA, ↓reduceIte, reduceIte, reduceCtorEq, Y1, Y2, Y3, Y4, Y5, Y6, Y7, Y8, Y9, YA, zA, qA, qC, wN]
    exact retRefE rfl ldk28 rfl rfl rfl hR' sR ⟨Weak.rfl' _, Weak.rfl' _, Weak.rfl' _, weak_emp _ _, trivial⟩
  have hnn : (a.den : Int) * b.den ≠ 0 := Int.mul_ne_zero (by have := a.den_nz; omega) (by have := b.den_nz; omega)
  have e0 : a + b = Rat.divInt (a.num * b.den + b.num * a.den) (a.den * b.den) := by
    rw [Rat.add_def', mkRat_divInt]; push_cast; rfl
  have m1 := bl_mul a.num b.den
  have m2 := bl_mul b.num a.den
  have m3 := bl_mul a.den b.den
  have m4 := bl_add (a.num * b.den) (b.num * a.den)
  have cA := den_fn a
  have cB := den_fn b
  have c1 := mul_fn a.num b.den (by unfold room; omega) (by unfold room; omega)
  have c2 := mul_fn b.num a.den (by unfold room; omega) (by unfold room; omega)
  have c3 := add_fn (a.num * b.den) (b.num * a.den) (by unfold room; omega) (by unfold room; omega)
  have c4 := mul_fn a.den b.den (by unfold room; omega) (by unfold room; omega)
  have c5 := make_fn (a.num * b.den + b.num * a.den) (a.den * b.den) (by omega) (by omega)
  rw [← e0, ← hR] at c5
  by_cases f : a.den = 1
  · have f1 : (a.den = 1) = True := eq_true f
    have f2 : (b.den = 1) = False := eq_false fun e => hi ⟨f, e⟩
    by_cases ha0 : a = 0
    · have g1 : (a = 0) = True := eq_true ha0
      have hR' : R = qA b := by rw [hR, ha0, Rat.zero_add]
      refine Fn.intro (fn := Tryz.f70) Tryz.call70 Tryz.func70 rfl mixed 7 [] [7, 80000002, 80000003] [] (by kernel_rfl) (Nat.le_of_ble_eq_true rfl) (by simp [settled_ints, settled_I, settled_fn0, settled_intss, settled_bool, settled_nil, settled_zA, settled_qA, settled_zR, settled_ofA, settled_int]) (vc_soundN 1000 ?_); simp (config := { maxSteps := 2000000 }) only [AS.start, ↓wPre, wA, ↓reduceIte, reduceIte, reduceCtorEq, Y1, Y2, Y3, Y4, Y5, Y6, Y7, Y8, Y9, YA, zA, qA, qC, wN]
      simp only [la, lb, na, nb, f1, f2, g1, ↓wPre, wA, ↓reduceIte, reduceIte, reduceCtorEq, Y1, Y2, Y3, Y4, Y5, Y6, Y7, Y8, Y9, YA, zA, qA, qC, wN]
      exact retA rfl ldk28 rfl rfl rfl sR (hR'.trans rfl)
    have g1 : (a = 0) = False := eq_false ha0
    by_cases hb0 : b = 0
    · have g2 : (b = 0) = True := eq_true hb0
      have hR' : R = qA a := by rw [hR, hb0, Rat.add_zero]
      refine Fn.intro (fn := Tryz.f70) Tryz.call70 Tryz.func70 rfl mixed 7 [] [7, 80000002, 80000003] [] (by kernel_rfl) (Nat.le_of_ble_eq_true rfl) (by simp [settled_ints, settled_I, settled_fn0, settled_intss, settled_bool, settled_nil, settled_zA, settled_qA, settled_zR, settled_ofA, settled_int]) (vc_soundN 1000 ?_); simp (config := { maxSteps := 2000000 }) only [AS.start, ↓wPre, wA, ↓reduceIte, reduceIte, reduceCtorEq, Y1, Y2, Y3, Y4, Y5, Y6, Y7, Y8, Y9, YA, zA, qA, qC, wN]
      simp only [la, lb, na, nb, f1, f2, g1, g2, ↓wPre, wA, ↓reduceIte, reduceIte, reduceCtorEq, Y1, Y2, Y3, Y4, Y5, Y6, Y7, Y8, Y9, YA, zA, qA, qC, wN]
      exact retA rfl ldk28 rfl rfl rfl sR (hR'.trans rfl)
    have g2 : (b = 0) = False := eq_false hb0
    refine Fn.intro (fn := Tryz.f70) Tryz.call70 Tryz.func70 rfl mixed 7 [] [7, 80000002, 80000003] [] (by kernel_rfl) (Nat.le_of_ble_eq_true rfl) (by simp [settled_ints, settled_I, settled_fn0, settled_intss, settled_bool, settled_nil, settled_zA, settled_qA, settled_zR, settled_ofA, settled_int]) (vc_soundN 1000 ?_); simp (config := { maxSteps := 2000000 }) only [AS.start, ↓wPre, wA, ↓reduceIte, reduceIte, reduceCtorEq, Y1, Y2, Y3, Y4, Y5, Y6, Y7, Y8, Y9, YA, zA, qA, qC, wN]
    simp only [la, lb, na, nb, f1, f2, g1, g2, ↓wPre, wA, ↓reduceIte, reduceIte, reduceCtorEq, Y1, Y2, Y3, Y4, Y5, Y6, Y7, Y8, Y9, YA, zA, qA, qC, wN]
    refine call_fn cA rfl ?_
    simp only [↓wPre, wA, ↓reduceIte, reduceIte, reduceCtorEq, Y1, Y2, Y3, Y4, Y5, Y6, Y7, Y8, Y9, YA, zA, qA, qC, wN]
    refine call_fn cB rfl ?_
    simp only [↓wPre, wA, ↓reduceIte, reduceIte, reduceCtorEq, Y1, Y2, Y3, Y4, Y5, Y6, Y7, Y8, Y9, YA, zA, qA, qC, wN]
    refine call_fn c1 rfl ?_
    simp only [↓wPre, wA, ↓reduceIte, reduceIte, reduceCtorEq, Y1, Y2, Y3, Y4, Y5, Y6, Y7, Y8, Y9, YA, zA, qA, qC, wN]
    refine call_fn c2 rfl ?_
    simp only [↓wPre, wA, ↓reduceIte, reduceIte, reduceCtorEq, Y1, Y2, Y3, Y4, Y5, Y6, Y7, Y8, Y9, YA, zA, qA, qC, wN]
    refine call_fn c3 rfl ?_
    simp only [↓wPre, wA, ↓reduceIte, reduceIte, reduceCtorEq, Y1, Y2, Y3, Y4, Y5, Y6, Y7, Y8, Y9, YA, zA, qA, qC, wN]
    refine call_fn c4 rfl ?_
    simp only [↓wPre, wA, ↓reduceIte, reduceIte, reduceCtorEq, Y1, Y2, Y3, Y4, Y5, Y6, Y7, Y8, Y9, YA, zA, qA, qC, wN]
    refine call_fn c5 rfl ?_
    simp only [hR, ↓wPre, wA, ↓reduceIte, reduceIte, reduceCtorEq, Y1, Y2, Y3, Y4, Y5, Y6, Y7, Y8, Y9, YA, zA, qA, qC, wN]
    exact retA rfl ldk28 rfl rfl rfl sR (hR.trans rfl)
  · have f1 : (a.den = 1) = False := eq_false f
    have f2 : True = True := rfl
    by_cases ha0 : a = 0
    · have g1 : (a = 0) = True := eq_true ha0
      have hR' : R = qA b := by rw [hR, ha0, Rat.zero_add]
      refine Fn.intro (fn := Tryz.f70) Tryz.call70 Tryz.func70 rfl mixed 7 [] [7, 80000002, 80000003] [] (by kernel_rfl) (Nat.le_of_ble_eq_true rfl) (by simp [settled_ints, settled_I, settled_fn0, settled_intss, settled_bool, settled_nil, settled_zA, settled_qA, settled_zR, settled_ofA, settled_int]) (vc_soundN 1000 ?_); simp (config := { maxSteps := 2000000 }) only [AS.start, ↓wPre, wA, ↓reduceIte, reduceIte, reduceCtorEq, Y1, Y2, Y3, Y4, Y5, Y6, Y7, Y8, Y9, YA, zA, qA, qC, wN]
      simp only [la, lb, na, nb, f1, f2, g1, ↓wPre, wA, ↓reduceIte, reduceIte, reduceCtorEq, Y1, Y2, Y3, Y4, Y5, Y6, Y7, Y8, Y9, YA, zA, qA, qC, wN]
      exact retA rfl ldk28 rfl rfl rfl sR (hR'.trans rfl)
    have g1 : (a = 0) = False := eq_false ha0
    by_cases hb0 : b = 0
    · have g2 : (b = 0) = True := eq_true hb0
      have hR' : R = qA a := by rw [hR, hb0, Rat.add_zero]
      refine Fn.intro (fn := Tryz.f70) Tryz.call70 Tryz.func70 rfl mixed 7 [] [7, 80000002, 80000003] [] (by kernel_rfl) (Nat.le_of_ble_eq_true rfl) (by simp [settled_ints, settled_I, settled_fn0, settled_intss, settled_bool, settled_nil, settled_zA, settled_qA, settled_zR, settled_ofA, settled_int]) (vc_soundN 1000 ?_); simp (config := { maxSteps := 2000000 }) only [AS.start, ↓wPre, wA, ↓reduceIte, reduceIte, reduceCtorEq, Y1, Y2, Y3, Y4, Y5, Y6, Y7, Y8, Y9, YA, zA, qA, qC, wN]
      simp only [la, lb, na, nb, f1, f2, g1, g2, ↓wPre, wA, ↓reduceIte, reduceIte, reduceCtorEq, Y1, Y2, Y3, Y4, Y5, Y6, Y7, Y8, Y9, YA, zA, qA, qC, wN]
      exact retA rfl ldk28 rfl rfl rfl sR (hR'.trans rfl)
    have g2 : (b = 0) = False := eq_false hb0
    refine Fn.intro (fn := Tryz.f70) Tryz.call70 Tryz.func70 rfl mixed 7 [] [7, 80000002, 80000003] [] (by kernel_rfl) (Nat.le_of_ble_eq_true rfl) (by simp [settled_ints, settled_I, settled_fn0, settled_intss, settled_bool, settled_nil, settled_zA, settled_qA, settled_zR, settled_ofA, settled_int]) (vc_soundN 1000 ?_); simp (config := { maxSteps := 2000000 }) only [AS.start, ↓wPre, wA, ↓reduceIte, reduceIte, reduceCtorEq, Y1, Y2, Y3, Y4, Y5, Y6, Y7, Y8, Y9, YA, zA, qA, qC, wN]
    simp only [la, lb, na, nb, f1, f2, g1, g2, ↓wPre, wA, ↓reduceIte, reduceIte, reduceCtorEq, Y1, Y2, Y3, Y4, Y5, Y6, Y7, Y8, Y9, YA, zA, qA, qC, wN]
    refine call_fn cA rfl ?_
    simp only [↓wPre, wA, ↓reduceIte, reduceIte, reduceCtorEq, Y1, Y2, Y3, Y4, Y5, Y6, Y7, Y8, Y9, YA, zA, qA, qC, wN]
    refine call_fn cB rfl ?_
    simp only [↓wPre, wA, ↓reduceIte, reduceIte, reduceCtorEq, Y1, Y2, Y3, Y4, Y5, Y6, Y7, Y8, Y9, YA, zA, qA, qC, wN]
    refine call_fn c1 rfl ?_
    simp only [↓wPre, wA, ↓reduceIte, reduceIte, reduceCtorEq, Y1, Y2, Y3, Y4, Y5, Y6, Y7, Y8, Y9, YA, zA, qA, qC, wN]
    refine call_fn c2 rfl ?_
    simp only [↓wPre, wA, ↓reduceIte, reduceIte, reduceCtorEq, Y1, Y2, Y3, Y4, Y5, Y6, Y7, Y8, Y9, YA, zA, qA, qC, wN]
    refine call_fn c3 rfl ?_
    simp only [↓wPre, wA, ↓reduceIte, reduceIte, reduceCtorEq, Y1, Y2, Y3, Y4, Y5, Y6, Y7, Y8, Y9, YA, zA, qA, qC, wN]
    refine call_fn c4 rfl ?_
    simp only [↓wPre, wA, ↓reduceIte, reduceIte, reduceCtorEq, Y1, Y2, Y3, Y4, Y5, Y6, Y7, Y8, Y9, YA, zA, qA, qC, wN]
    refine call_fn c5 rfl ?_
    simp only [hR, ↓wPre, wA, ↓reduceIte, reduceIte, reduceCtorEq, Y1, Y2, Y3, Y4, Y5, Y6, Y7, Y8, Y9, YA, zA, qA, qC, wN]
    exact retA rfl ldk28 rfl rfl rfl sR (hR.trans rfl)
end
end Go.Ab.N
