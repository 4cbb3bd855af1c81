/- Contracts of functions of these chapters, for every argument that fits, and what they need. -/
import Derived.Test.YtefjhgcndhepeaaGreatC5
set_option linter.unusedSimpArgs false
set_option linter.unusedVariables false
open Nat renaming reducePow → Y1, reduceLT → Y2, reduceLeDiff → Y3, reduceEqDiff → Y4, reduceAdd → Y5, reduceMul → Y6, reduceSub → Y7, reduceBEq → Y8, reduceDiv → Y9, reduceMod → YA
namespace Go.Ab.N
open Go Go.RowKit Go.Proofs
noncomputable section
set_option maxRecDepth 10000
set_option maxHeartbeats 2000000
open Classical

/-- Digits without a zero at the end, in an own object: nothing is taken off, and the result is the object itself. -/
theorem normal_own (neg : Bool) (Q : List Int) (m0 n : Nat) (f : Nat → AV) (x : Int) (hf : f (n - 1) = .int .i64 x) (hx : x ≠ 0) (hne : n ≠ 0) (hl : n < 4611686018427387904) (hb : ∀ j, j < n → Bel 2 (f j)) :
    HCall Tryz.prog 168 [.bool neg, .osl 1 0 1 0 n] [.row 0 m0 (slF I 0 Q), .row 0 n f] (.agg [.bool neg, .osl 1 0 1 0 n]) [.row 0 m0 (slF I 0 Q), .row 0 n f] := by
  have hbO : belO 2 (.row 0 n f) = True := eq_true hb
  refine HCall.introC (fn := Tryz.f168) Tryz.call168 Tryz.func168 rfl mixed 6 [] [] [] (by kernel_rfl) (Nat.le_of_ble_eq_true rfl) (by simp [wBel]) (by simp [wBel, hbO]) (vc_soundN 1000 ?_)
  simp only [AS.start, ↓wPre, wA, ↓reduceIte, reduceIte, reduceCtorEq, Y1, Y2, Y3, Y4, Y5, Y6, Y7, Y8, Y9, YA, zA, qA, qC, wN]
  refine run_loop (fun _ : Unit => ⟨6, [], [.bool neg, .osl 1 0 1 0 n, .any, .any, .ref 2 0 0, I n], [], [.row 0 m0 (slF I 0 Q), .row 0 n f, .row 0 2 (ofL [.bool false, .sl 0 0 (fun _ => .any) true])]⟩) (fun _ => True) (fun _ => 0) () trivial (sub_mk rfl (by simp [zA, qA, qC, wN, subL, ints, intss, bools, sl1, I]) (by simp [subT]) rfl) ?_
  rintro ⟨⟩ _ _
  have e0 : (0 < (n : Int)) = True := eq_true (by omega)
  have e1 : ((n : Int) = 0) = False := eq_false (by omega)
  have e1' : (n = 0) = False := eq_false (by omega)
  have w1 : IntKind.i64.wrap ((n : Int) - 1) = ((n - 1 : Nat) : Int) := by rw [IntKind.wrap_i64]; omega
  have w2 : (((n - 1 : Nat) : Int) < 0) = False := eq_false (by omega)
  have e2 : (n - 1 < n) = True := eq_true (by omega)
  have e3 : (x = 0) = False := eq_false hx
  refine vc_soundN 1000 ?_
  simp only [e0, e1, e1', e2, e3, w1, w2, hf, Int.sub_zero, Int.toNat_natCast, ↓wPre, wA, ↓reduceIte, reduceIte, reduceCtorEq, Y1, Y2, Y3, Y4, Y5, Y6, Y7, Y8, Y9, YA, zA, qA, qC, wN]
  exact retCell (v := .agg [.bool neg, .osl 1 0 1 0 n]) rfl (by simp [AS.get, aload, ldk26, rd, cellsFrom, ofL, oif_true]) rfl rfl
def divSt (a b : List Int) (B : Nat) (p : Nat) : AS :=
  ⟨16, [], [ints a, ints b, .any, .any, .any, .any, .any, .any, .osl 0 0 1 0 a.length, ints (digs (remD a B p).toNat), I ((p : Int) - 1), .any, .any, .any, .any, .any], [], [.row 0 a.length (slF I 0 (quoM a B p))]⟩
def divSt2 (a b : List Int) (B i : Nat) (R : Nat) (p : Int × Int) : AS :=
  ⟨16, [], [ints a, ints b, .any, .any, .any, .any, .any, .any, .osl 0 0 1 0 a.length, ints (digs R), I i, .any, I p.1, I p.2, .any, .any], [], [.row 0 a.length (slF I 0 (quoM a B (i + 1)))]⟩
theorem divided_fn (A B : Nat) (hA : (digs A).length < 1000000000) (hB : (digs B).length < 1000000000) (hB0 : B ≠ 0) :
    ∃ q : List Int, dig q ∧ val q = ((A / B : Nat) : Int) ∧ q.length < 1000000000 ∧ Fn Tryz.prog 223 [ints (digs A), ints (digs B)] (.tup [ints q, ints (digs (A % B))]) := by
  have dA := digs_dig A
  have dB := digs_dig B
  have vA := digs_val A
  have vB := digs_val B
  by_cases hs : (digs A).length ≤ 2 ∧ (digs B).length ≤ 2
  · refine ⟨digs (A / B), digs_dig _, digs_val _, ?_, ?_⟩
    · have := bl_mono (y := ((A / B : Nat) : Int)) (z := (A : Int)) (by have := Nat.div_le_self A B; generalize A / B = q at *; omega)
      rw [bl_nat, bl_nat] at this; omega
    have l1 := digs_len2 hs.1
    have l2 := digs_len2 hs.2
    have c1 := tiny_fn _ dA hs.1
    have c2 := tiny_fn _ dB hs.2
    rw [vA] at c1
    rw [vB] at c2
    have l3 : A / B ≤ A := Nat.div_le_self A B
    have l4 : A % B ≤ A := Nat.mod_le A B
    have c3 := rofZ_fn ((A / B : Nat) : Int) (by unfold in64; generalize A / B = q at *; omega)
    have c4 := rofZ_fn ((A % B : Nat) : Int) (by unfold in64; generalize A % B = q at *; omega)
    rw [zA_nat] at c3 c4
    have e1 : IntKind.i64.wrap ((A : Int).tdiv B) = ((A / B : Nat) : Int) := by
      rw [show (A : Int).tdiv B = ((A / B : Nat) : Int) from rfl]
      generalize A / B = q at *
      rw [IntKind.wrap_i64]; omega
    have e2 : (A : Int).tmod B = ((A % B : Nat) : Int) := rfl
    have f1 : (((digs A).length : Int) ≤ 2) = True := eq_true (by omega)
    have f2 : (((digs B).length : Int) ≤ 2) = True := eq_true (by omega)
    have f3 : ((B : Int) = 0) = False := eq_false (by omega)
    refine Fn.intro (fn := Tryz.f223) Tryz.call223 Tryz.func223 rfl mixed 16 [] [] [] (by kernel_rfl) (Nat.le_of_ble_eq_true rfl) (by simp [settled_ints, settled_I, settled_fn0, settled_intss, settled_bool, settled_nil, settled_zA, settled_qA, settled_zR, settled_ofA, settled_int]) (vc_soundN 1000 ?_); simp (config := { maxSteps := 2000000 }) only [AS.start, ↓wPre, wA, ↓reduceIte, reduceIte, reduceCtorEq, Y1, Y2, Y3, Y4, Y5, Y6, Y7, Y8, Y9, YA, zA, qA, qC, wN]
    simp only [f1, f2, hs.1, hs.2, ↓wPre, wA, ↓reduceIte, reduceIte, reduceCtorEq, Y1, Y2, Y3, Y4, Y5, Y6, Y7, Y8, Y9, YA, zA, qA, qC, wN]
    refine call_fn c1 rfl ?_
    simp only [↓wPre, wA, ↓reduceIte, reduceIte, reduceCtorEq, Y1, Y2, Y3, Y4, Y5, Y6, Y7, Y8, Y9, YA, zA, qA, qC, wN]
    refine call_fn c2 rfl ?_
    simp only [f3, e1, ↓wPre, wA, ↓reduceIte, reduceIte, reduceCtorEq, Y1, Y2, Y3, Y4, Y5, Y6, Y7, Y8, Y9, YA, zA, qA, qC, wN]
    refine call_fn c3 rfl ?_
    simp only [↓wPre, wA, ↓reduceIte, reduceIte, reduceCtorEq, Y1, Y2, Y3, Y4, Y5, Y6, Y7, Y8, Y9, YA, zA, qA, qC, wN]
    refine call_fn c1 rfl ?_
    simp only [↓wPre, wA, ↓reduceIte, reduceIte, reduceCtorEq, Y1, Y2, Y3, Y4, Y5, Y6, Y7, Y8, Y9, YA, zA, qA, qC, wN]
    refine call_fn c2 rfl ?_
    simp only [f3, e2, ↓wPre, wA, ↓reduceIte, reduceIte, reduceCtorEq, Y1, Y2, Y3, Y4, Y5, Y6, Y7, Y8, Y9, YA, zA, qA, qC, wN]
    refine call_fn c4 rfl ?_
    simp only [↓wPre, wA, ↓reduceIte, reduceIte, reduceCtorEq, Y1, Y2, Y3, Y4, Y5, Y6, Y7, Y8, Y9, YA, zA, qA, qC, wN]
    exact ret2E rfl rfl rfl (settled_ints _) (settled_ints _) rfl rfl
  have hb : (0 : Int) < B := by omega
  obtain ⟨a, ha⟩ : ∃ a, a = digs A := ⟨_, rfl⟩
  have hqa := quo_all (a := digs A) (b := (B : Int)) hb
  have hr0 : remD (digs A) B 0 = ((A % B : Nat) : Int) := by unfold remD; rw [List.drop_zero, vA]; rfl
  have hval : val (tab (quoD (digs A) B) (digs A).length) = ((A / B : Nat) : Int) := by
    rw [vA, hr0] at hqa
    have h3 := Nat.mod_add_div A B
    have h3' : ((A % B : Nat) : Int) + B * ((A / B : Nat) : Int) = A := by exact_mod_cast h3
    have h4 : (B : Int) * val (tab (quoD (digs A) B) (digs A).length) = B * ((A / B : Nat) : Int) := by omega
    exact Int.eq_of_mul_eq_mul_left (by omega) h4
  refine ⟨tab (quoD (digs A) B) (digs A).length, dig_tab fun i _ => quoD_dig dA hb i, hval, by rw [tab_len]; exact hA, ?_⟩
  obtain ⟨QQ, hQQ⟩ : ∃ r, r = ints (tab (quoD (digs A) B) (digs A).length) := ⟨_, rfl⟩
  have sQQ : Settled QQ := hQQ ▸ settled_ints _
  rw [← hQQ]
  have w00 : IntKind.i64.wrap ((digs A).length : Int) = ((digs A).length : Int) := by rw [IntKind.wrap_i64]; omega
  have w0 : IntKind.i64.wrap (((digs A).length : Int) - 1) = ((digs A).length : Int) - 1 := by rw [IntKind.wrap_i64]; omega
  refine Fn.intro (fn := Tryz.f223) Tryz.call223 Tryz.func223 rfl mixed 16 [] [] [] (by kernel_rfl) (Nat.le_of_ble_eq_true rfl) (by simp [settled_ints]) (vc_soundN 1000 ?_)
  have hsI : ¬ (((digs A).length : Int) ≤ 2 ∧ ((digs B).length : Int) ≤ 2) := fun h => hs ⟨by omega, by omega⟩
  simp (config := { maxSteps := 2000000 }) only [AS.start, w0, Int.toNat_natCast, ↓wPre, wA, ↓reduceIte, reduceIte, reduceCtorEq, Y1, Y2, Y3, Y4, Y5, Y6, Y7, Y8, Y9, YA, zA, qA, qC, wN]
  refine (fun key => ⟨fun a => ⟨fun b => absurd ⟨a, b⟩ hsI, fun _ => ⟨⟨by omega, by omega⟩, key⟩⟩, fun _ => ⟨⟨by omega, by omega⟩, key⟩⟩) ?r
  refine run_loop (divSt (digs A) (digs B) B) (fun p => p ≤ (digs A).length) (fun p => p) (digs A).length (Nat.le_refl _) ?_ ?_
  · refine (sub_rowf 0 (digs A).length (slF I 0 (quoM (digs A) B (digs A).length)) rfl (Nat.le_refl _) ?_).trans ?_
    · intro j hj
      have : (quoM (digs A) B (digs A).length).getD j 0 = 0 := by unfold quoM; rw [tab_at _ _ _ hj, if_neg (by omega)]
      rw [slF_at, this]; rfl
    refine (sub_weak 9 (ints []) (by simp) ?_).trans (sub_mk rfl ?_ ?_ ?_)
    · exact weak_emp _ _
    · simp [divSt, subL, ints, sl1, I, remD_end, digs_zero]
    · simp [divSt, subT]
    · rfl
  intro p hp next
  cases p with
  | zero =>
    have e1 : ((0 : Int) ≤ 0 - 1) = False := eq_false (by omega)
    refine vc_soundN 1000 ?_
    simp (config := { maxSteps := 2000000 }) only [divSt, e1, ↓wPre, wA, ↓reduceIte, reduceIte, reduceCtorEq, Y1, Y2, Y3, Y4, Y5, Y6, Y7, Y8, Y9, YA, zA, qA, qC, wN]
    refine ret2 rfl (sees_tup ⟨?_, sees_of (settled_ints _) ?_, trivial⟩)
    · rw [hQQ]
      exact sees_rowE settled_I rfl rfl (tab_len _ _).symm (by rw [quoM_zero]) (Nat.le_of_eq (tab_len _ _))
    · rw [hr0, Int.toNat_natCast]; rfl
  | succ i =>
    obtain ⟨r, hr⟩ : ∃ r, r = (remD (digs A) B (i + 1)).toNat := ⟨_, rfl⟩
    have r0 : 0 ≤ remD (digs A) B (i + 1) := Int.emod_nonneg _ (by omega)
    have r1 : remD (digs A) B (i + 1) < B := Int.emod_lt_of_pos _ hb
    have er : remD (digs A) B (i + 1) = r := by omega
    have da := dg_dig dA i
    unfold digt at da
    have eA : (digs A).getD i 0 = dg (digs A) i := rfl
    obtain ⟨x, hx⟩ : ∃ x : Nat, dg (digs A) i = x := ⟨(dg (digs A) i).toNat, by omega⟩
    rw [hx] at da eA
    obtain ⟨R, hR⟩ : ∃ R, R = r * 1000000000 + x := ⟨_, rfl⟩
    obtain ⟨Q, hQ⟩ : ∃ Q, Q = quoD (digs A) B i := ⟨_, rfl⟩
    have hRc : (R : Int) = (r : Int) * 1000000000 + x := by omega
    have hQd : Q = (R : Int) / B := by rw [hQ, quoD, er, eA, hRc]
    have hrn : remD (digs A) B i = (R : Int) % B := by rw [remD_step (digs A) B i (by omega), er, eA, hRc]
    have dQ := quoD_dig dA hb i
    rw [← hQ] at dQ
    unfold digt at dQ
    have q0 := dQ.1
    have hdm := Int.emod_add_mul_ediv (R : Int) B
    rw [← hQd, ← hrn] at hdm
    have n0 : 0 ≤ remD (digs A) B i := Int.emod_nonneg _ (by omega)
    have n1 : remD (digs A) B i < B := Int.emod_lt_of_pos _ hb
    have hmq : (B : Int) * (Q + 1) = B * Q + B := by rw [Int.mul_add, Int.mul_one]
    have lR : (digs R).length ≤ (digs B).length + 1 := by
      have h1 : ((R : Int)).natAbs ≤ ((B : Int) * 1000000000).natAbs := by omega
      have h2 := bl_mono h1
      have h3 := bl_mul (B : Int) 1000000000
      have h4 : bl (1000000000 : Int) ≤ 2 := bl_le (by simp [pw])
      rw [bl_nat] at h2 h3
      have h5 : (R : Int) < pw ((digs B).length + 1) := by
        have g1 := digs_lt B
        have g2 := pw_pos (digs B).length
        simp only [pw]
        omega
      exact digs_len_le h5
    have look : ∀ mid : Int, 0 ≤ mid → mid < 1000000000 → Fn Tryz.prog 251 [ints (digs B), I mid] (ints (digs ((B : Int) * mid).toNat)) ∧ Fn Tryz.prog 220 [ints (digs ((B : Int) * mid).toNat), ints (digs R)] (I ((B : Int) * mid - R).sign) := by
      intro mid g0 g1
      have c1 := times_fn (digs B) mid (digs_canon B) ⟨g0, g1⟩ (by omega)
      rw [vB] at c1
      have m0 : 0 ≤ (B : Int) * mid := Int.mul_nonneg (by omega) g0
      have m1 : (digs ((B : Int) * mid).toNat).length ≤ (digs B).length + 3 := by
        have h2 := bl_mul (B : Int) mid
        have h3 : bl mid ≤ 3 := bl_i64 ⟨by omega, by omega⟩
        have h4 : bl ((B : Int) * mid) = (digs ((B : Int) * mid).toNat).length := by show (digs ((B : Int) * mid).natAbs).length = _; rw [show ((B : Int) * mid).natAbs = ((B : Int) * mid).toNat by omega]
        rw [bl_nat] at h2; omega
      have c2 := compared_fn (digs ((B : Int) * mid).toNat) (digs R) (digs_canon _) (digs_canon _) (by omega)
      rw [digs_val, digs_val, Int.toNat_of_nonneg m0] at c2
      exact ⟨c1, c2⟩
    obtain ⟨T, hT⟩ : ∃ T : Nat, (T : Int) = B * Q := ⟨((B : Int) * Q).toNat, Int.toNat_of_nonneg (Int.mul_nonneg (by omega) q0)⟩
    have hTR : T ≤ R := by omega
    have lT : (digs T).length ≤ (digs R).length := by
      have := bl_mono (y := (T : Int)) (z := (R : Int)) (by omega)
      rw [bl_nat, bl_nat] at this; exact this
    have cm := rminus_fn (digs R) (digs T) (digs_dig _) (digs_dig _) (by omega) lT (by rw [digs_val, digs_val]; omega)
    have vm := minusF_val (digs_dig R) (digs_dig T) lT (by rw [digs_val, digs_val]; omega)
    rw [digs_val, digs_val] at vm
    have cn := normal_z false (minusF (digs R) (digs T)) (minusF_dig (digs_dig _) (digs_dig _)) (by unfold minusF; rw [tab_len]; omega)
    obtain ⟨r', hr'⟩ : ∃ r' : Nat, (r' : Int) = remD (digs A) B i := ⟨(remD (digs A) B i).toNat, by omega⟩
    rw [vm, show sgn false ((R : Int) - T) = (r' : Int) by unfold sgn; simp; omega, zA_nat] at cn
    have eT : ((B : Int) * Q).toNat = T := by omega
    have hrn' : (remD (digs A) B i).toNat = r' := by omega
    rw [← eT] at cm cn
    have hU : upd (slF I 0 (quoM (digs A) B (i + 1))) i (.int .i64 Q) = slF I 0 (quoM (digs A) B i) := by
      rw [upd_I _ _ _ (by rw [quoM_len]; omega), quoM_set (digs A) B i (by omega) hQ]
    have e1 : ((i + 1 : Nat) : Int) - 1 = (i : Int) := by omega
    have w1 : IntKind.i64.wrap ((i : Int) - 1) = (i : Int) - 1 := by rw [IntKind.wrap_i64]; omega
    have f3 : (i < (digs A).length) = True := eq_true (by omega)
    have f3' : (i + 1 ≤ (digs A).length) = True := eq_true (by omega)
    have e0 : ((0 : Int) ≤ (i : Int)) = True := eq_true (by omega)
    have cc0 := compared_fn (digs R) (digs B) (digs_canon _) (digs_canon _) (by omega)
    rw [digs_val, vB] at cc0
    by_cases hrz : r = 0
    · -- no rest yet
      have hrz' : (remD (digs A) B (i + 1)).toNat = 0 := by omega
      have hRx : R = x := by omega
      have cn1 := normal_z false [(x : Int)] (dig_cons.2 ⟨⟨by omega, by omega⟩, dig_nil⟩) (by simp)
      rw [show sgn false (val [(x : Int)]) = (R : Int) by unfold sgn; simp [val]; omega, zA_nat] at cn1
      refine vc_soundN 1000 ?_
      simp (config := { maxSteps := 2000000 }) only [divSt, e1, e0, eA, f3, hrz', digs_zero, Int.toNat_natCast, ↓wPre, wA, ↓reduceIte, reduceIte, reduceCtorEq, Y1, Y2, Y3, Y4, Y5, Y6, Y7, Y8, Y9, YA, zA, qA, qC, wN]
      refine call_weak cn1 ⟨Weak.rfl' _, weak_litE rfl rfl, trivial⟩ ?_
      simp (config := { maxSteps := 2000000 }) only [↓wPre, wA, ↓reduceIte, reduceIte, reduceCtorEq, Y1, Y2, Y3, Y4, Y5, Y6, Y7, Y8, Y9, YA, zA, qA, qC, wN]
      refine call_fn cc0 rfl ?_
      by_cases hlt : ((R : Int) - B).sign < 0
      · have g1 : (((R : Int) - B).sign < 0) = True := eq_true hlt
        have hQ0 : Q = 0 := by
          have := Int.sign_neg_iff.1 hlt
          rw [hQd]; exact Int.ediv_eq_zero_of_lt (by omega) (by omega)
        simp (config := { maxSteps := 2000000 }) only [g1, ↓wPre, wA, ↓reduceIte, reduceIte, reduceCtorEq, Y1, Y2, Y3, Y4, Y5, Y6, Y7, Y8, Y9, YA, zA, qA, qC, wN]
        refine run_loop (divSt2 (digs A) (digs B) B i R) (fun p => 0 ≤ p.1 ∧ p.1 ≤ Q ∧ Q ≤ p.2 ∧ p.2 < 1000000000) (fun p => (p.2 - p.1).toNat) (0, 0) ⟨Int.le_refl 0, q0, by simp only; omega, by simp only; omega⟩ ?_ ?_
        · exact (sub_cut (m := 1) (Nat.zero_le _) rfl (by simp [zA, qA, qC, wN, divSt2, subL, ints, sl1, I]) (by simp [zA, qA, qC, wN, divSt2, subT]) (by simp [zA, qA, qC, wN, divSt2, ints, sl1, I]) (by simp [zA, qA, qC, wN, divSt2, wBel]) (by simp [zA, qA, qC, wN, divSt2, wBel]) (by simp [zA, qA, qC, wN, divSt2, wBel]))
        rintro ⟨lo, hi⟩ ⟨h1, h2, h3, h4⟩ next2
        simp only at h1 h2 h3 h4
        by_cases hlh : lo < hi
        · obtain ⟨mid, hmid⟩ : ∃ mid, mid = (lo + hi + 1) / 2 := ⟨_, rfl⟩
          have k1 : IntKind.i64.wrap (lo + hi) = lo + hi := by rw [IntKind.wrap_i64]; omega
          have k2 : IntKind.i64.wrap (lo + hi + 1) = lo + hi + 1 := by rw [IntKind.wrap_i64]; omega
          have k3 : IntKind.i64.wrap ((lo + hi + 1).tdiv 2) = mid := by rw [Int.tdiv_eq_ediv_of_nonneg (by omega), ← hmid, IntKind.wrap_i64]; omega
          have k4 : IntKind.i64.wrap (mid - 1) = mid - 1 := by rw [IntKind.wrap_i64]; omega
          have j1 : (lo < hi) = True := eq_true hlh
          obtain ⟨ct, cc⟩ := look mid (by omega) (by omega)
          by_cases hm : (B : Int) * mid ≤ R
          · have j2 : (((B : Int) * mid - R).sign ≤ 0) = True := eq_true (by
              rcases Int.lt_or_eq_of_le hm with h | h
              · rw [Int.sign_eq_neg_one_of_neg (by omega)]; omega
              · rw [h, Int.sub_self]; simp)
            have hq : mid ≤ Q := by
              apply Classical.byContradiction
              intro hh
              have : (B : Int) * (Q + 1) ≤ B * mid := Int.mul_le_mul_of_nonneg_left (by omega) (by omega)
              omega
            refine vc_soundN 1000 ?_
            simp (config := { maxSteps := 2000000 }) only [divSt2, j1, k1, k2, k3, Int.reduceEq, ↓wPre, wA, ↓reduceIte, reduceIte, reduceCtorEq, Y1, Y2, Y3, Y4, Y5, Y6, Y7, Y8, Y9, YA, zA, qA, qC, wN]
            refine call_fn ct rfl ?_
            simp (config := { maxSteps := 2000000 }) only [k1, k2, k3, ↓wPre, wA, ↓reduceIte, reduceIte, reduceCtorEq, Y1, Y2, Y3, Y4, Y5, Y6, Y7, Y8, Y9, YA, zA, qA, qC, wN]
            refine call_fn cc rfl ?_
            simp (config := { maxSteps := 2000000 }) only [j2, ↓wPre, wA, ↓reduceIte, reduceIte, reduceCtorEq, Y1, Y2, Y3, Y4, Y5, Y6, Y7, Y8, Y9, YA, zA, qA, qC, wN]
            exact next2 (mid, hi) _ ⟨by simp only; omega, hq, h3, h4⟩ (by simp only; omega) (sub_mk rfl (by simp [divSt2, subL, ints, sl1, I]) (by simp [divSt2, subT]) rfl)
          · have j2 : (((B : Int) * mid - R).sign ≤ 0) = False := eq_false (by
              rw [Int.sign_eq_one_of_pos (by omega)]; omega)
            have hq : Q ≤ mid - 1 := by
              apply Classical.byContradiction
              intro hh
              have : (B : Int) * mid ≤ B * Q := Int.mul_le_mul_of_nonneg_left (by omega) (by omega)
              omega
            refine vc_soundN 1000 ?_
            simp (config := { maxSteps := 2000000 }) only [divSt2, j1, k1, k2, k3, Int.reduceEq, ↓wPre, wA, ↓reduceIte, reduceIte, reduceCtorEq, Y1, Y2, Y3, Y4, Y5, Y6, Y7, Y8, Y9, YA, zA, qA, qC, wN]
            refine call_fn ct rfl ?_
            simp (config := { maxSteps := 2000000 }) only [k1, k2, k3, ↓wPre, wA, ↓reduceIte, reduceIte, reduceCtorEq, Y1, Y2, Y3, Y4, Y5, Y6, Y7, Y8, Y9, YA, zA, qA, qC, wN]
            refine call_fn cc rfl ?_
            simp (config := { maxSteps := 2000000 }) only [j2, k4, ↓wPre, wA, ↓reduceIte, reduceIte, reduceCtorEq, Y1, Y2, Y3, Y4, Y5, Y6, Y7, Y8, Y9, YA, zA, qA, qC, wN]
            exact next2 (lo, mid - 1) _ ⟨h1, h2, hq, by simp only; omega⟩ (by simp only; omega) (sub_mk rfl (by simp [divSt2, subL, ints, sl1, I]) (by simp [divSt2, subT]) rfl)
        · obtain rfl : lo = Q := by omega
          have j1 : (lo < hi) = False := eq_false hlh
          obtain ⟨ct, _⟩ := look lo (by omega) (by omega)
          refine vc_soundN 1000 ?_
          simp (config := { maxSteps := 2000000 }) only [divSt2, j1, ↓wPre, wA, ↓reduceIte, reduceIte, reduceCtorEq, Y1, Y2, Y3, Y4, Y5, Y6, Y7, Y8, Y9, YA, zA, qA, qC, wN]
          refine call_fn ct rfl ?_
          simp (config := { maxSteps := 2000000 }) only [↓wPre, wA, ↓reduceIte, reduceIte, reduceCtorEq, Y1, Y2, Y3, Y4, Y5, Y6, Y7, Y8, Y9, YA, zA, qA, qC, wN]
          refine call_fn cm rfl ?_
          simp (config := { maxSteps := 2000000 }) only [↓wPre, wA, ↓reduceIte, reduceIte, reduceCtorEq, Y1, Y2, Y3, Y4, Y5, Y6, Y7, Y8, Y9, YA, zA, qA, qC, wN]
          refine call_fn cn rfl ?_
          simp (config := { maxSteps := 2000000 }) only [f3, f3', hU, w1, Int.toNat_natCast, ↓wPre, wA, ↓reduceIte, reduceIte, reduceCtorEq, Y1, Y2, Y3, Y4, Y5, Y6, Y7, Y8, Y9, YA, zA, qA, qC, wN]
          exact next i _ (by omega) (by omega) (sub_cut (m := 1) (Nat.zero_le _) rfl (by simp [zA, qA, qC, wN, divSt, hrn', subL, ints, sl1, I]) (by simp [zA, qA, qC, wN, divSt, hrn', subT]) (by simp [zA, qA, qC, wN, divSt, hrn', ints, sl1, I]) (by simp [zA, qA, qC, wN, divSt, hrn', wBel]) (by simp [zA, qA, qC, wN, divSt, hrn', wBel]) (by simp [zA, qA, qC, wN, divSt, hrn', wBel]))
      · have g1 : (((R : Int) - B).sign < 0) = False := eq_false hlt
        simp (config := { maxSteps := 2000000 }) only [g1, ↓wPre, wA, ↓reduceIte, reduceIte, reduceCtorEq, Y1, Y2, Y3, Y4, Y5, Y6, Y7, Y8, Y9, YA, zA, qA, qC, wN]
        refine run_loop (divSt2 (digs A) (digs B) B i R) (fun p => 0 ≤ p.1 ∧ p.1 ≤ Q ∧ Q ≤ p.2 ∧ p.2 < 1000000000) (fun p => (p.2 - p.1).toNat) (0, 999999999) ⟨Int.le_refl 0, q0, by simp only; omega, by simp only; omega⟩ ?_ ?_
        · exact (sub_cut (m := 1) (Nat.zero_le _) rfl (by simp [zA, qA, qC, wN, divSt2, subL, ints, sl1, I]) (by simp [zA, qA, qC, wN, divSt2, subT]) (by simp [zA, qA, qC, wN, divSt2, ints, sl1, I]) (by simp [zA, qA, qC, wN, divSt2, wBel]) (by simp [zA, qA, qC, wN, divSt2, wBel]) (by simp [zA, qA, qC, wN, divSt2, wBel]))
        rintro ⟨lo, hi⟩ ⟨h1, h2, h3, h4⟩ next2
        simp only at h1 h2 h3 h4
        by_cases hlh : lo < hi
        · obtain ⟨mid, hmid⟩ : ∃ mid, mid = (lo + hi + 1) / 2 := ⟨_, rfl⟩
          have k1 : IntKind.i64.wrap (lo + hi) = lo + hi := by rw [IntKind.wrap_i64]; omega
          have k2 : IntKind.i64.wrap (lo + hi + 1) = lo + hi + 1 := by rw [IntKind.wrap_i64]; omega
          have k3 : IntKind.i64.wrap ((lo + hi + 1).tdiv 2) = mid := by rw [Int.tdiv_eq_ediv_of_nonneg (by omega), ← hmid, IntKind.wrap_i64]; omega
          have k4 : IntKind.i64.wrap (mid - 1) = mid - 1 := by rw [IntKind.wrap_i64]; omega
          have j1 : (lo < hi) = True := eq_true hlh
          obtain ⟨ct, cc⟩ := look mid (by omega) (by omega)
          by_cases hm : (B : Int) * mid ≤ R
          · have j2 : (((B : Int) * mid - R).sign ≤ 0) = True := eq_true (by
              rcases Int.lt_or_eq_of_le hm with h | h
              · rw [Int.sign_eq_neg_one_of_neg (by omega)]; omega
              · rw [h, Int.sub_self]; simp)
            have hq : mid ≤ Q := by
              apply Classical.byContradiction
              intro hh
              have : (B : Int) * (Q + 1) ≤ B * mid := Int.mul_le_mul_of_nonneg_left (by omega) (by omega)
              omega
            refine vc_soundN 1000 ?_
            simp (config := { maxSteps := 2000000 }) only [divSt2, j1, k1, k2, k3, Int.reduceEq, ↓wPre, wA, ↓reduceIte, reduceIte, reduceCtorEq, Y1, Y2, Y3, Y4, Y5, Y6, Y7, Y8, Y9, YA, zA, qA, qC, wN]
            refine call_fn ct rfl ?_
            simp (config := { maxSteps := 2000000 }) only [k1, k2, k3, ↓wPre, wA, ↓reduceIte, reduceIte, reduceCtorEq, Y1, Y2, Y3, Y4, Y5, Y6, Y7, Y8, Y9, YA, zA, qA, qC, wN]
            refine call_fn cc rfl ?_
            simp (config := { maxSteps := 2000000 }) only [j2, ↓wPre, wA, ↓reduceIte, reduceIte, reduceCtorEq, Y1, Y2, Y3, Y4, Y5, Y6, Y7, Y8, Y9, YA, zA, qA, qC, wN]
            exact next2 (mid, hi) _ ⟨by simp only; omega, hq, h3, h4⟩ (by simp only; omega) (sub_mk rfl (by simp [divSt2, subL, ints, sl1, I]) (by simp [divSt2, subT]) rfl)
          · have j2 : (((B : Int) * mid - R).sign ≤ 0) = False := eq_false (by
              rw [Int.sign_eq_one_of_pos (by omega)]; omega)
            have hq : Q ≤ mid - 1 := by
              apply Classical.byContradiction
              intro hh
              have : (B : Int) * mid ≤ B * Q := Int.mul_le_mul_of_nonneg_left (by omega) (by omega)
              omega
            refine vc_soundN 1000 ?_
            simp (config := { maxSteps := 2000000 }) only [divSt2, j1, k1, k2, k3, Int.reduceEq, ↓wPre, wA, ↓reduceIte, reduceIte, reduceCtorEq, Y1, Y2, Y3, Y4, Y5, Y6, Y7, Y8, Y9, YA, zA, qA, qC, wN]
            refine call_fn ct rfl ?_
            simp (config := { maxSteps := 2000000 }) only [k1, k2, k3, ↓wPre, wA, ↓reduceIte, reduceIte, reduceCtorEq, Y1, Y2, Y3, Y4, Y5, Y6, Y7, Y8, Y9, YA, zA, qA, qC, wN]
            refine call_fn cc rfl ?_
            simp (config := { maxSteps := 2000000 }) only [j2, k4, ↓wPre, wA, ↓reduceIte, reduceIte, reduceCtorEq, Y1, Y2, Y3, Y4, Y5, Y6, Y7, Y8, Y9, YA, zA, qA, qC, wN]
            exact next2 (lo, mid - 1) _ ⟨h1, h2, hq, by simp only; omega⟩ (by simp only; omega) (sub_mk rfl (by simp [divSt2, subL, ints, sl1, I]) (by simp [divSt2, subT]) rfl)
        · obtain rfl : lo = Q := by omega
          have j1 : (lo < hi) = False := eq_false hlh
          obtain ⟨ct, _⟩ := look lo (by omega) (by omega)
          refine vc_soundN 1000 ?_
          simp (config := { maxSteps := 2000000 }) only [divSt2, j1, ↓wPre, wA, ↓reduceIte, reduceIte, reduceCtorEq, Y1, Y2, Y3, Y4, Y5, Y6, Y7, Y8, Y9, YA, zA, qA, qC, wN]
          refine call_fn ct rfl ?_
          simp (config := { maxSteps := 2000000 }) only [↓wPre, wA, ↓reduceIte, reduceIte, reduceCtorEq, Y1, Y2, Y3, Y4, Y5, Y6, Y7, Y8, Y9, YA, zA, qA, qC, wN]
          refine call_fn cm rfl ?_
          simp (config := { maxSteps := 2000000 }) only [↓wPre, wA, ↓reduceIte, reduceIte, reduceCtorEq, Y1, Y2, Y3, Y4, Y5, Y6, Y7, Y8, Y9, YA, zA, qA, qC, wN]
          refine call_fn cn rfl ?_
          simp (config := { maxSteps := 2000000 }) only [f3, f3', hU, w1, Int.toNat_natCast, ↓wPre, wA, ↓reduceIte, reduceIte, reduceCtorEq, Y1, Y2, Y3, Y4, Y5, Y6, Y7, Y8, Y9, YA, zA, qA, qC, wN]
          exact next i _ (by omega) (by omega) (sub_cut (m := 1) (Nat.zero_le _) rfl (by simp [zA, qA, qC, wN, divSt, hrn', subL, ints, sl1, I]) (by simp [zA, qA, qC, wN, divSt, hrn', subT]) (by simp [zA, qA, qC, wN, divSt, hrn', ints, sl1, I]) (by simp [zA, qA, qC, wN, divSt, hrn', wBel]) (by simp [zA, qA, qC, wN, divSt, hrn', wBel]) (by simp [zA, qA, qC, wN, divSt, hrn', wBel]))
    · -- the digit ahead of the rest
      obtain ⟨m, hm⟩ : ∃ m, m = (digs r).length := ⟨_, rfl⟩
      have hm0 : m ≠ 0 := fun h => hrz (digs_len_zero.1 (by omega))
      have dR : digs R = (x : Int) :: digs r := by
        rw [digs_pos (by omega), show R % 1000000000 = x by omega, show R / 1000000000 = r by omega]
      have hlR : 1 + m = (digs R).length := by rw [dR]; simp; omega
      have hfj : ∀ j, j < 1 + m → appF 1 (ofL [.int .i64 (x : Int)]) m (slF I 0 (digs r)) j = I ((digs R).getD j 0) := by
        intro j hj
        rw [dR]
        cases j with
        | zero => simp [appF, ofL, I]
        | succ j =>
          unfold appF
          rw [if_neg (by omega), if_pos hj, show j + 1 - 1 = j by omega, slF_at]
          rfl
      have hnz : (digs R).getD m 0 ≠ 0 := by
        have := (digs_canon R).2 (by rw [dR]; simp)
        rwa [← hlR, show 1 + m - 1 = m by omega] at this
      have hfl : appF 1 (ofL [.int .i64 (x : Int)]) m (slF I 0 (digs r)) (1 + m - 1) = .int .i64 ((digs R).getD m 0) := by
        rw [show 1 + m - 1 = m by omega, hfj m (by omega)]; rfl
      have cno := normal_own false (quoM (digs A) B (i + 1)) (digs A).length (1 + m) _ _ hfl hnz (by omega) (by omega) (fun j hj => by rw [hfj j hj]; exact bel_I _ _)
      have hw : ∀ H : List AO, H[1]? = some (.con 0 (1 + m) (appF 1 (ofL [.int .i64 (x : Int)]) m (slF I 0 (digs r)))) → WeakIn H (.osl 1 0 1 0 (1 + m)) (ints (digs R)) := by
        intro H ho
        show WeakIn H _ (.sl (digs R).length (digs R).length (slF I 0 (digs R)) false)
        rw [← hlR]
        exact weakIn_osl ho (Nat.le_refl _) (fun h => by omega) fun j hj => by rw [hfj j hj]; exact weakIn_rfl _ _
      have f5 : (m = 0) = False := eq_false hm0
      have hrz' : (remD (digs A) B (i + 1)).toNat = r := by omega
      refine vc_soundN 1000 ?_
      simp (config := { maxSteps := 2000000 }) only [divSt, e1, e0, eA, f3, hrz', ← hm, f5, Int.toNat_natCast, ↓wPre, wA, ↓reduceIte, reduceIte, reduceCtorEq, Y1, Y2, Y3, Y4, Y5, Y6, Y7, Y8, Y9, YA, zA, qA, qC, wN]
      refine ⟨⟨by omega, by omega, by omega⟩, call_heap rfl cno (fun _ _ _ _ => Iff.rfl) (fun id => ?_) ⟨Weak.rfl' _, Weak.rfl' _, trivial⟩ ?_⟩
      · match id with
        | 0 => simp
        | 1 => simp
        | id + 2 => simp
      simp (config := { maxSteps := 2000000 }) only [↓wPre, wA, ↓reduceIte, reduceIte, reduceCtorEq, Y1, Y2, Y3, Y4, Y5, Y6, Y7, Y8, Y9, YA, zA, qA, qC, wN]
      refine call_lent cc0 rfl ⟨sees_intsF rfl rfl hlR (by omega) (fun j hj => hfj j (by omega)), sees_of (settled_ints _) rfl, trivial⟩ (flat_int _ _) ?_
      by_cases hlt : ((R : Int) - B).sign < 0
      · have g1 : (((R : Int) - B).sign < 0) = True := eq_true hlt
        have hQ0 : Q = 0 := by
          have := Int.sign_neg_iff.1 hlt
          rw [hQd]; exact Int.ediv_eq_zero_of_lt (by omega) (by omega)
        simp (config := { maxSteps := 2000000 }) only [g1, ↓wPre, wA, ↓reduceIte, reduceIte, reduceCtorEq, Y1, Y2, Y3, Y4, Y5, Y6, Y7, Y8, Y9, YA, zA, qA, qC, wN]
        refine run_loop (divSt2 (digs A) (digs B) B i R) (fun p => 0 ≤ p.1 ∧ p.1 ≤ Q ∧ Q ≤ p.2 ∧ p.2 < 1000000000) (fun p => (p.2 - p.1).toNat) (0, 0) ⟨Int.le_refl 0, q0, by simp only; omega, by simp only; omega⟩ ?_ ?_
        · refine (sub_con 1 rfl).trans ((sub_weakIn 9 (ints (digs R)) (by simp) (hw _ rfl)).trans (sub_cut (m := 1) (Nat.zero_le _) rfl (by simp [zA, qA, qC, wN, divSt2, subL, ints, sl1, I]) (by simp [zA, qA, qC, wN, divSt2, subT]) (by simp [zA, qA, qC, wN, divSt2, ints, sl1, I]) (by simp [zA, qA, qC, wN, divSt2, wBel]) (by simp [zA, qA, qC, wN, divSt2, wBel]) (by simp [zA, qA, qC, wN, divSt2, wBel])))
        rintro ⟨lo, hi⟩ ⟨h1, h2, h3, h4⟩ next2
        simp only at h1 h2 h3 h4
        by_cases hlh : lo < hi
        · obtain ⟨mid, hmid⟩ : ∃ mid, mid = (lo + hi + 1) / 2 := ⟨_, rfl⟩
          have k1 : IntKind.i64.wrap (lo + hi) = lo + hi := by rw [IntKind.wrap_i64]; omega
          have k2 : IntKind.i64.wrap (lo + hi + 1) = lo + hi + 1 := by rw [IntKind.wrap_i64]; omega
          have k3 : IntKind.i64.wrap ((lo + hi + 1).tdiv 2) = mid := by rw [Int.tdiv_eq_ediv_of_nonneg (by omega), ← hmid, IntKind.wrap_i64]; omega
          have k4 : IntKind.i64.wrap (mid - 1) = mid - 1 := by rw [IntKind.wrap_i64]; omega
          have j1 : (lo < hi) = True := eq_true hlh
          obtain ⟨ct, cc⟩ := look mid (by omega) (by omega)
          by_cases hm : (B : Int) * mid ≤ R
          · have j2 : (((B : Int) * mid - R).sign ≤ 0) = True := eq_true (by
              rcases Int.lt_or_eq_of_le hm with h | h
              · rw [Int.sign_eq_neg_one_of_neg (by omega)]; omega
              · rw [h, Int.sub_self]; simp)
            have hq : mid ≤ Q := by
              apply Classical.byContradiction
              intro hh
              have : (B : Int) * (Q + 1) ≤ B * mid := Int.mul_le_mul_of_nonneg_left (by omega) (by omega)
              omega
            refine vc_soundN 1000 ?_
            simp (config := { maxSteps := 2000000 }) only [divSt2, j1, k1, k2, k3, Int.reduceEq, ↓wPre, wA, ↓reduceIte, reduceIte, reduceCtorEq, Y1, Y2, Y3, Y4, Y5, Y6, Y7, Y8, Y9, YA, zA, qA, qC, wN]
            refine call_fn ct rfl ?_
            simp (config := { maxSteps := 2000000 }) only [k1, k2, k3, ↓wPre, wA, ↓reduceIte, reduceIte, reduceCtorEq, Y1, Y2, Y3, Y4, Y5, Y6, Y7, Y8, Y9, YA, zA, qA, qC, wN]
            refine call_fn cc rfl ?_
            simp (config := { maxSteps := 2000000 }) only [j2, ↓wPre, wA, ↓reduceIte, reduceIte, reduceCtorEq, Y1, Y2, Y3, Y4, Y5, Y6, Y7, Y8, Y9, YA, zA, qA, qC, wN]
            exact next2 (mid, hi) _ ⟨by simp only; omega, hq, h3, h4⟩ (by simp only; omega) (sub_mk rfl (by simp [divSt2, subL, ints, sl1, I]) (by simp [divSt2, subT]) rfl)
          · have j2 : (((B : Int) * mid - R).sign ≤ 0) = False := eq_false (by
              rw [Int.sign_eq_one_of_pos (by omega)]; omega)
            have hq : Q ≤ mid - 1 := by
              apply Classical.byContradiction
              intro hh
              have : (B : Int) * mid ≤ B * Q := Int.mul_le_mul_of_nonneg_left (by omega) (by omega)
              omega
            refine vc_soundN 1000 ?_
            simp (config := { maxSteps := 2000000 }) only [divSt2, j1, k1, k2, k3, Int.reduceEq, ↓wPre, wA, ↓reduceIte, reduceIte, reduceCtorEq, Y1, Y2, Y3, Y4, Y5, Y6, Y7, Y8, Y9, YA, zA, qA, qC, wN]
            refine call_fn ct rfl ?_
            simp (config := { maxSteps := 2000000 }) only [k1, k2, k3, ↓wPre, wA, ↓reduceIte, reduceIte, reduceCtorEq, Y1, Y2, Y3, Y4, Y5, Y6, Y7, Y8, Y9, YA, zA, qA, qC, wN]
            refine call_fn cc rfl ?_
            simp (config := { maxSteps := 2000000 }) only [j2, k4, ↓wPre, wA, ↓reduceIte, reduceIte, reduceCtorEq, Y1, Y2, Y3, Y4, Y5, Y6, Y7, Y8, Y9, YA, zA, qA, qC, wN]
            exact next2 (lo, mid - 1) _ ⟨h1, h2, hq, by simp only; omega⟩ (by simp only; omega) (sub_mk rfl (by simp [divSt2, subL, ints, sl1, I]) (by simp [divSt2, subT]) rfl)
        · obtain rfl : lo = Q := by omega
          have j1 : (lo < hi) = False := eq_false hlh
          obtain ⟨ct, _⟩ := look lo (by omega) (by omega)
          refine vc_soundN 1000 ?_
          simp (config := { maxSteps := 2000000 }) only [divSt2, j1, ↓wPre, wA, ↓reduceIte, reduceIte, reduceCtorEq, Y1, Y2, Y3, Y4, Y5, Y6, Y7, Y8, Y9, YA, zA, qA, qC, wN]
          refine call_fn ct rfl ?_
          simp (config := { maxSteps := 2000000 }) only [↓wPre, wA, ↓reduceIte, reduceIte, reduceCtorEq, Y1, Y2, Y3, Y4, Y5, Y6, Y7, Y8, Y9, YA, zA, qA, qC, wN]
          refine call_fn cm rfl ?_
          simp (config := { maxSteps := 2000000 }) only [↓wPre, wA, ↓reduceIte, reduceIte, reduceCtorEq, Y1, Y2, Y3, Y4, Y5, Y6, Y7, Y8, Y9, YA, zA, qA, qC, wN]
          refine call_fn cn rfl ?_
          simp (config := { maxSteps := 2000000 }) only [f3, f3', hU, w1, Int.toNat_natCast, ↓wPre, wA, ↓reduceIte, reduceIte, reduceCtorEq, Y1, Y2, Y3, Y4, Y5, Y6, Y7, Y8, Y9, YA, zA, qA, qC, wN]
          exact next i _ (by omega) (by omega) (sub_cut (m := 1) (Nat.zero_le _) rfl (by simp [zA, qA, qC, wN, divSt, hrn', subL, ints, sl1, I]) (by simp [zA, qA, qC, wN, divSt, hrn', subT]) (by simp [zA, qA, qC, wN, divSt, hrn', ints, sl1, I]) (by simp [zA, qA, qC, wN, divSt, hrn', wBel]) (by simp [zA, qA, qC, wN, divSt, hrn', wBel]) (by simp [zA, qA, qC, wN, divSt, hrn', wBel]))
      · have g1 : (((R : Int) - B).sign < 0) = False := eq_false hlt
        simp (config := { maxSteps := 2000000 }) only [g1, ↓wPre, wA, ↓reduceIte, reduceIte, reduceCtorEq, Y1, Y2, Y3, Y4, Y5, Y6, Y7, Y8, Y9, YA, zA, qA, qC, wN]
        refine run_loop (divSt2 (digs A) (digs B) B i R) (fun p => 0 ≤ p.1 ∧ p.1 ≤ Q ∧ Q ≤ p.2 ∧ p.2 < 1000000000) (fun p => (p.2 - p.1).toNat) (0, 999999999) ⟨Int.le_refl 0, q0, by simp only; omega, by simp only; omega⟩ ?_ ?_
        · refine (sub_con 1 rfl).trans ((sub_weakIn 9 (ints (digs R)) (by simp) (hw _ rfl)).trans (sub_cut (m := 1) (Nat.zero_le _) rfl (by simp [zA, qA, qC, wN, divSt2, subL, ints, sl1, I]) (by simp [zA, qA, qC, wN, divSt2, subT]) (by simp [zA, qA, qC, wN, divSt2, ints, sl1, I]) (by simp [zA, qA, qC, wN, divSt2, wBel]) (by simp [zA, qA, qC, wN, divSt2, wBel]) (by simp [zA, qA, qC, wN, divSt2, wBel])))
        rintro ⟨lo, hi⟩ ⟨h1, h2, h3, h4⟩ next2
        simp only at h1 h2 h3 h4
        by_cases hlh : lo < hi
        · obtain ⟨mid, hmid⟩ : ∃ mid, mid = (lo + hi + 1) / 2 := ⟨_, rfl⟩
          have k1 : IntKind.i64.wrap (lo + hi) = lo + hi := by rw [IntKind.wrap_i64]; omega
          have k2 : IntKind.i64.wrap (lo + hi + 1) = lo + hi + 1 := by rw [IntKind.wrap_i64]; omega
          have k3 : IntKind.i64.wrap ((lo + hi + 1).tdiv 2) = mid := by rw [Int.tdiv_eq_ediv_of_nonneg (by omega), ← hmid, IntKind.wrap_i64]; omega
          have k4 : IntKind.i64.wrap (mid - 1) = mid - 1 := by rw [IntKind.wrap_i64]; omega
          have j1 : (lo < hi) = True := eq_true hlh
          obtain ⟨ct, cc⟩ := look mid (by omega) (by omega)
          by_cases hm : (B : Int) * mid ≤ R
          · have j2 : (((B : Int) * mid - R).sign ≤ 0) = True := eq_true (by
              rcases Int.lt_or_eq_of_le hm with h | h
              · rw [Int.sign_eq_neg_one_of_neg (by omega)]; omega
              · rw [h, Int.sub_self]; simp)
            have hq : mid ≤ Q := by
              apply Classical.byContradiction
              intro hh
              have : (B : Int) * (Q + 1) ≤ B * mid := Int.mul_le_mul_of_nonneg_left (by omega) (by omega)
              omega
            refine vc_soundN 1000 ?_
            simp (config := { maxSteps := 2000000 }) only [divSt2, j1, k1, k2, k3, Int.reduceEq, ↓wPre, wA, ↓reduceIte, reduceIte, reduceCtorEq, Y1, Y2, Y3, Y4, Y5, Y6, Y7, Y8, Y9, YA, zA, qA, qC, wN]
            refine call_fn ct rfl ?_
            simp (config := { maxSteps := 2000000 }) only [k1, k2, k3, ↓wPre, wA, ↓reduceIte, reduceIte, reduceCtorEq, Y1, Y2, Y3, Y4, Y5, Y6, Y7, Y8, Y9, YA, zA, qA, qC, wN]
            refine call_fn cc rfl ?_
            simp (config := { maxSteps := 2000000 }) only [j2, ↓wPre, wA, ↓reduceIte, reduceIte, reduceCtorEq, Y1, Y2, Y3, Y4, Y5, Y6, Y7, Y8, Y9, YA, zA, qA, qC, wN]
            exact next2 (mid, hi) _ ⟨by simp only; omega, hq, h3, h4⟩ (by simp only; omega) (sub_mk rfl (by simp [divSt2, subL, ints, sl1, I]) (by simp [divSt2, subT]) rfl)
          · have j2 : (((B : Int) * mid - R).sign ≤ 0) = False := eq_false (by
              rw [Int.sign_eq_one_of_pos (by omega)]; omega)
            have hq : Q ≤ mid - 1 := by
              apply Classical.byContradiction
              intro hh
              have : (B : Int) * mid ≤ B * Q := Int.mul_le_mul_of_nonneg_left (by omega) (by omega)
              omega
            refine vc_soundN 1000 ?_
            simp (config := { maxSteps := 2000000 }) only [divSt2, j1, k1, k2, k3, Int.reduceEq, ↓wPre, wA, ↓reduceIte, reduceIte, reduceCtorEq, Y1, Y2, Y3, Y4, Y5, Y6, Y7, Y8, Y9, YA, zA, qA, qC, wN]
            refine call_fn ct rfl ?_
            simp (config := { maxSteps := 2000000 }) only [k1, k2, k3, ↓wPre, wA, ↓reduceIte, reduceIte, reduceCtorEq, Y1, Y2, Y3, Y4, Y5, Y6, Y7, Y8, Y9, YA, zA, qA, qC, wN]
            refine call_fn cc rfl ?_
            simp (config := { maxSteps := 2000000 }) only [j2, k4, ↓wPre, wA, ↓reduceIte, reduceIte, reduceCtorEq, Y1, Y2, Y3, Y4, Y5, Y6, Y7, Y8, Y9, YA, zA, qA, qC, wN]
            exact next2 (lo, mid - 1) _ ⟨h1, h2, hq, by simp only; omega⟩ (by simp only; omega) (sub_mk rfl (by simp [divSt2, subL, ints, sl1, I]) (by simp [divSt2, subT]) rfl)
        · obtain rfl : lo = Q := by omega
          have j1 : (lo < hi) = False := eq_false hlh
          obtain ⟨ct, _⟩ := look lo (by omega) (by omega)
          refine vc_soundN 1000 ?_
          simp (config := { maxSteps := 2000000 }) only [divSt2, j1, ↓wPre, wA, ↓reduceIte, reduceIte, reduceCtorEq, Y1, Y2, Y3, Y4, Y5, Y6, Y7, Y8, Y9, YA, zA, qA, qC, wN]
          refine call_fn ct rfl ?_
          simp (config := { maxSteps := 2000000 }) only [↓wPre, wA, ↓reduceIte, reduceIte, reduceCtorEq, Y1, Y2, Y3, Y4, Y5, Y6, Y7, Y8, Y9, YA, zA, qA, qC, wN]
          refine call_fn cm rfl ?_
          simp (config := { maxSteps := 2000000 }) only [↓wPre, wA, ↓reduceIte, reduceIte, reduceCtorEq, Y1, Y2, Y3, Y4, Y5, Y6, Y7, Y8, Y9, YA, zA, qA, qC, wN]
          refine call_fn cn rfl ?_
          simp (config := { maxSteps := 2000000 }) only [f3, f3', hU, w1, Int.toNat_natCast, ↓wPre, wA, ↓reduceIte, reduceIte, reduceCtorEq, Y1, Y2, Y3, Y4, Y5, Y6, Y7, Y8, Y9, YA, zA, qA, qC, wN]
          exact next i _ (by omega) (by omega) (sub_cut (m := 1) (Nat.zero_le _) rfl (by simp [zA, qA, qC, wN, divSt, hrn', subL, ints, sl1, I]) (by simp [zA, qA, qC, wN, divSt, hrn', subT]) (by simp [zA, qA, qC, wN, divSt, hrn', ints, sl1, I]) (by simp [zA, qA, qC, wN, divSt, hrn', wBel]) (by simp [zA, qA, qC, wN, divSt, hrn', wBel]) (by simp [zA, qA, qC, wN, divSt, hrn', wBel]))
end
end Go.Ab.N
namespace Go.Ab.N
open Go Go.RowKit Go.Proofs
noncomputable section
set_option maxRecDepth 10000
set_option maxHeartbeats 2000000
open Classical

theorem rdivz_fn (x y : Int) (hx : bl x < 1000000000) (hy : bl y < 1000000000) (hy0 : y ≠ 0) : Fn Tryz.prog 165 [zA x, zA y] (.tup [zA (x / y), zA (x % y)]) := by
  obtain ⟨L, dL, vL, lL, cd⟩ := divided_fn x.natAbs y.natAbs hx hy (by omega)
  obtain ⟨q, hq⟩ : ∃ q, q = x.natAbs / y.natAbs := ⟨_, rfl⟩
  obtain ⟨r, hr⟩ : ∃ r, r = x.natAbs % y.natAbs := ⟨_, rfl⟩
  have hry : r < y.natAbs := by rw [hr]; exact Nat.mod_lt _ (by omega)
  have hqx : q ≤ x.natAbs := by rw [hq]; exact Nat.div_le_self _ _
  rw [← hq] at vL
  rw [← hr] at cd
  have lr : (digs r).length < 1000000000 := by
    have := bl_mono (y := (r : Int)) (z := y) (by omega)
    rw [bl_nat] at this; omega
  have ly : (digs y.natAbs).length < 1000000000 := hy
  have lry : (digs r).length ≤ (digs y.natAbs).length := by
    have := bl_mono (y := (r : Int)) (z := y) (by omega)
    rw [bl_nat] at this; exact this
  have y1 : ((digs y.natAbs).length = 0) = False := eq_false (fun h => by have := digs_len_zero.1 h; omega)
  have y2 : (((digs y.natAbs).length : Int) = 0) = False := eq_false (fun h => by have := digs_len_zero.1 (show (digs y.natAbs).length = 0 by omega); omega)
  obtain ⟨q1, r1, h1⟩ : ∃ q1 r1, if x < 0 ∧ r ≠ 0 then q1 = q + 1 ∧ r1 = y.natAbs - r else q1 = q ∧ r1 = r := by
    by_cases h : x < 0 ∧ r ≠ 0
    · exact ⟨q + 1, y.natAbs - r, by rw [if_pos h]; exact ⟨rfl, rfl⟩⟩
    · exact ⟨q, r, by rw [if_neg h]; exact ⟨rfl, rfl⟩⟩
  obtain ⟨e1, e2⟩ := ediv_parts x y hy0 q r hq hr q1 r1 h1
  obtain ⟨s, hsg⟩ : ∃ s, s = (decide (x < 0) != decide (y < 0)) := ⟨_, rfl⟩
  have hsg' : (!(decide (x < 0) == decide (y < 0))) = s := by rw [hsg]; cases decide (x < 0) <;> cases decide (y < 0) <;> rfl
  have c1 := normal_z s L dL (by omega)
  rw [vL] at c1
  have c2 := normal_z false (digs r) (digs_dig r) (by omega)
  rw [digs_val, show sgn false (r : Int) = (r : Int) from rfl, zA_nat] at c2
  obtain ⟨Q, hQ⟩ : ∃ Q, Q = zA (x / y) := ⟨_, rfl⟩
  obtain ⟨R, hR⟩ : ∃ R, R = zA (x % y) := ⟨_, rfl⟩
  have sQ : Settled Q := hQ ▸ settled_zA _
  have sR : Settled R := hR ▸ settled_zA _
  rw [← hQ, ← hR]
  rw [e1, ← hsg] at hQ
  rw [e2, zA_nat] at hR
  have g1 : ∀ n : Nat, (0 < (digs n).length) = (n ≠ 0) := fun n => propext (by have := @digs_len_zero n; omega)
  have fin : ∀ {s' : AS}, resAt Tryz.prog s' (.cell 4 26) = some (zA (sgn s q1)) → resAt Tryz.prog s' (.cell 5 26) = some (.agg [.bool false, ints (digs r1)]) →
      RetOk (envP Tryz.prog Tryz.f165 [9, 10000, 100000009] [] (.tup [Q, R])) s' := fun h1 h2 => retRef2 rfl h1 h2 (sees_of sQ hQ.symm) (sees_of sR hR.symm)
  by_cases hc : x < 0 ∧ r ≠ 0
  · obtain ⟨hx0, hr0⟩ := hc
    rw [if_pos ⟨hx0, hr0⟩] at h1
    obtain ⟨rfl, rfl⟩ := h1
    have c3 := normal_z s [1] (dig_cons.2 ⟨⟨by omega, by omega⟩, dig_nil⟩) (by simp)
    rw [show val [(1 : Int)] = 1 by simp [val]] at c3
    have bq : bl (sgn s (q : Int)) < room := by
      have h2 := bl_mono (y := sgn s (q : Int)) (z := x) (by unfold sgn; split <;> omega)
      unfold room; omega
    have c4 := raddz_fn (sgn s (q : Int)) (sgn s 1) bq (by
      have := bl_i64 (n := sgn s 1) (by unfold sgn; split <;> exact ⟨by omega, by omega⟩)
      unfold room; omega)
    rw [show sgn s (q : Int) + sgn s 1 = sgn s ((q + 1 : Nat) : Int) by unfold sgn; split <;> omega] at c4
    have cm := rminus_fn (digs y.natAbs) (digs r) (digs_dig _) (digs_dig _) (by omega) lry (by rw [digs_val, digs_val]; omega)
    have vm := minusF_val (digs_dig y.natAbs) (digs_dig r) lry (by rw [digs_val, digs_val]; omega)
    rw [digs_val, digs_val] at vm
    have c5 := normal_z false (minusF (digs y.natAbs) (digs r)) (minusF_dig (digs_dig _) (digs_dig _)) (by unfold minusF; rw [tab_len]; omega)
    rw [vm, show sgn false ((y.natAbs : Int) - r) = ((y.natAbs - r : Nat) : Int) by unfold sgn; simp; omega, zA_nat] at c5
    have f1 : (x < 0) = True := eq_true hx0
    have f2 : (0 < (digs r).length) = True := eq_true (by rw [g1]; exact hr0)
    have f3 : (0 < ((digs r).length : Int)) = True := eq_true (by have := of_eq_true f2; omega)
    have hsT : (!(true == decide (y < 0))) = s := by rw [← hsg', decide_eq_true hx0]
    refine Fn.intro (fn := Tryz.f165) Tryz.call165 Tryz.func165 rfl mixed 10 [] [9, 10000, 100000009] [] (by kernel_rfl) (Nat.le_of_ble_eq_true rfl) (by simp [settled_ints, settled_I, settled_fn0, settled_intss, settled_bool, settled_nil, settled_zA, settled_qA, settled_zR, settled_ofA, settled_int]) (vc_soundN 1000 ?_); simp (config := { maxSteps := 2000000 }) only [AS.start, ↓wPre, wA, ↓reduceIte, reduceIte, reduceCtorEq, Y1, Y2, Y3, Y4, Y5, Y6, Y7, Y8, Y9, YA, zA, qA, qC, wN]
    simp only [y1, y2, f1, ↓wPre, wA, ↓reduceIte, reduceIte, reduceCtorEq, Y1, Y2, Y3, Y4, Y5, Y6, Y7, Y8, Y9, YA, zA, qA, qC, wN]
    refine call_fn cd rfl ?_
    simp only [f1, decide_true, hsT, ↓wPre, wA, ↓reduceIte, reduceIte, reduceCtorEq, Y1, Y2, Y3, Y4, Y5, Y6, Y7, Y8, Y9, YA, zA, qA, qC, wN]
    refine call_fn c1 rfl ?_
    simp only [f1, f2, f3, decide_true, ↓wPre, wA, ↓reduceIte, reduceIte, reduceCtorEq, Y1, Y2, Y3, Y4, Y5, Y6, Y7, Y8, Y9, YA, zA, qA, qC, wN]
    refine call_fn c2 rfl ?_
    simp only [f1, f2, f3, hsT, decide_true, ↓wPre, wA, ↓reduceIte, reduceIte, reduceCtorEq, Y1, Y2, Y3, Y4, Y5, Y6, Y7, Y8, Y9, YA, zA, qA, qC, wN]
    refine call_weak c3 ⟨Weak.rfl' _, weak_litE rfl rfl, trivial⟩ ?_
    simp only [↓wPre, wA, ↓reduceIte, reduceIte, reduceCtorEq, Y1, Y2, Y3, Y4, Y5, Y6, Y7, Y8, Y9, YA, zA, qA, qC, wN]
    refine call_fn c4 rfl ?_
    simp only [↓wPre, wA, ↓reduceIte, reduceIte, reduceCtorEq, Y1, Y2, Y3, Y4, Y5, Y6, Y7, Y8, Y9, YA, zA, qA, qC, wN]
    refine call_fn cm rfl ?_
    simp only [↓wPre, wA, ↓reduceIte, reduceIte, reduceCtorEq, Y1, Y2, Y3, Y4, Y5, Y6, Y7, Y8, Y9, YA, zA, qA, qC, wN]
    refine call_fn c5 rfl ?_
    simp only [↓wPre, wA, ↓reduceIte, reduceIte, reduceCtorEq, Y1, Y2, Y3, Y4, Y5, Y6, Y7, Y8, Y9, YA, zA, qA, qC, wN]
    exact fin (resAt_ref ldk26 rfl rfl rfl) (resAt_ref ldk26 rfl rfl rfl)
  rw [if_neg hc] at h1
  obtain ⟨rfl, rfl⟩ := h1
  have zr : x < 0 → (0 < (digs r1).length) = False := fun h => eq_false (by rw [g1]; exact fun h2 => hc ⟨h, h2⟩)
  by_cases hx0 : x < 0
  · have f1 : (x < 0) = True := eq_true hx0
    have f2 := zr hx0
    have f3 : (0 < ((digs r1).length : Int)) = False := eq_false (by have := of_eq_false f2; omega)
    have hsT : (!(true == decide (y < 0))) = s := by rw [← hsg', decide_eq_true hx0]
    refine Fn.intro (fn := Tryz.f165) Tryz.call165 Tryz.func165 rfl mixed 10 [] [9, 10000, 100000009] [] (by kernel_rfl) (Nat.le_of_ble_eq_true rfl) (by simp [settled_ints, settled_I, settled_fn0, settled_intss, settled_bool, settled_nil, settled_zA, settled_qA, settled_zR, settled_ofA, settled_int]) (vc_soundN 1000 ?_); simp (config := { maxSteps := 2000000 }) only [AS.start, ↓wPre, wA, ↓reduceIte, reduceIte, reduceCtorEq, Y1, Y2, Y3, Y4, Y5, Y6, Y7, Y8, Y9, YA, zA, qA, qC, wN]
    simp only [y1, y2, f1, ↓wPre, wA, ↓reduceIte, reduceIte, reduceCtorEq, Y1, Y2, Y3, Y4, Y5, Y6, Y7, Y8, Y9, YA, zA, qA, qC, wN]
    refine call_fn cd rfl ?_
    simp only [f1, f2, f3, decide_true, hsT, ↓wPre, wA, ↓reduceIte, reduceIte, reduceCtorEq, Y1, Y2, Y3, Y4, Y5, Y6, Y7, Y8, Y9, YA, zA, qA, qC, wN]
    refine call_fn c1 rfl ?_
    simp only [f1, f2, f3, decide_true, ↓wPre, wA, ↓reduceIte, reduceIte, reduceCtorEq, Y1, Y2, Y3, Y4, Y5, Y6, Y7, Y8, Y9, YA, zA, qA, qC, wN]
    refine call_fn c2 rfl ?_
    simp only [f1, f2, f3, decide_true, ↓wPre, wA, ↓reduceIte, reduceIte, reduceCtorEq, Y1, Y2, Y3, Y4, Y5, Y6, Y7, Y8, Y9, YA, zA, qA, qC, wN]
    exact fin (resAt_ref ldk26 rfl rfl rfl) (resAt_ref ldk26 rfl rfl rfl)
  · have f1 : (x < 0) = False := eq_false hx0
    have hsT : (!(false == decide (y < 0))) = s := by rw [← hsg', decide_eq_false hx0]
    refine Fn.intro (fn := Tryz.f165) Tryz.call165 Tryz.func165 rfl mixed 10 [] [9, 10000, 100000009] [] (by kernel_rfl) (Nat.le_of_ble_eq_true rfl) (by simp [settled_ints, settled_I, settled_fn0, settled_intss, settled_bool, settled_nil, settled_zA, settled_qA, settled_zR, settled_ofA, settled_int]) (vc_soundN 1000 ?_); simp (config := { maxSteps := 2000000 }) only [AS.start, ↓wPre, wA, ↓reduceIte, reduceIte, reduceCtorEq, Y1, Y2, Y3, Y4, Y5, Y6, Y7, Y8, Y9, YA, zA, qA, qC, wN]
    simp only [y1, y2, f1, ↓wPre, wA, ↓reduceIte, reduceIte, reduceCtorEq, Y1, Y2, Y3, Y4, Y5, Y6, Y7, Y8, Y9, YA, zA, qA, qC, wN]
    refine call_fn cd rfl ?_
    simp only [f1, decide_false, hsT, ↓wPre, wA, ↓reduceIte, reduceIte, reduceCtorEq, Y1, Y2, Y3, Y4, Y5, Y6, Y7, Y8, Y9, YA, zA, qA, qC, wN]
    refine call_fn c1 rfl ?_
    simp only [f1, decide_false, ↓wPre, wA, ↓reduceIte, reduceIte, reduceCtorEq, Y1, Y2, Y3, Y4, Y5, Y6, Y7, Y8, Y9, YA, zA, qA, qC, wN]
    refine call_fn c2 rfl ?_
    simp only [f1, decide_false, ↓wPre, wA, ↓reduceIte, reduceIte, reduceCtorEq, Y1, Y2, Y3, Y4, Y5, Y6, Y7, Y8, Y9, YA, zA, qA, qC, wN]
    exact fin (resAt_ref ldk26 rfl rfl rfl) (resAt_ref ldk26 rfl rfl rfl)
def rgcdSt (x y : Int) (p : Nat × Nat) : AS :=
  ⟨12, [], [.any, .any, .ref 0 0 0, .ref 1 0 0, .ref 2 0 0, .ref 3 0 0, .ref 4 0 0, .any, .any, .any, .any, .any], [],
    [.row 0 2 (ofL [.bool (decide (x < 0)), ints (digs x.natAbs)]), .row 0 2 (ofL [.bool (decide (y < 0)), ints (digs y.natAbs)]), .row 0 2 (ofL [.bool false, .sl 0 0 (fun _ => .any) true]),
     .row 0 2 (ofL [.bool false, ints (digs p.1)]), .row 0 2 (ofL [.bool false, ints (digs p.2)])]⟩
def rgcdSt2 (x y : Int) (A B : Nat) (p : Nat × Nat) : AS :=
  ⟨12, [], [.any, .any, .ref 0 0 0, .ref 1 0 0, .ref 2 0 0, .ref 3 0 0, .ref 4 0 0, I p.1, I p.2, .any, .any, .any], [],
    [.row 0 2 (ofL [.bool (decide (x < 0)), ints (digs x.natAbs)]), .row 0 2 (ofL [.bool (decide (y < 0)), ints (digs y.natAbs)]), .row 0 2 (ofL [.bool false, .sl 0 0 (fun _ => .any) true]),
     .row 0 2 (ofL [.bool false, ints (digs A)]), .row 0 2 (ofL [.bool false, ints (digs B)])]⟩
theorem rgcdz_fn (x y : Int) (hx : bl x < 1000000000) (hy : bl y < 1000000000) : Fn Tryz.prog 164 [zA x, zA y] (zA (Int.gcd x y)) := by
  have ofC : ∀ n : Nat, (digs n).length < 1000000002 → Fn Tryz.prog 168 [.bool false, ints (digs n)] (.agg [.bool false, ints (digs n)]) := fun n h => by
    have := normal_z false (digs n) (digs_dig n) (by omega)
    rw [digs_val] at this
    rw [← zA_nat]; exact this
  unfold bl at hx hy
  have cx := ofC x.natAbs (by omega)
  have cy := ofC y.natAbs (by omega)
  obtain ⟨R, hR⟩ : ∃ R, R = zA (Int.gcd x y) := ⟨_, rfl⟩
  have sR : Settled R := hR ▸ settled_zA _
  rw [← hR]
  rw [zA_nat] at hR
  refine Fn.intro (fn := Tryz.f164) Tryz.call164 Tryz.func164 rfl mixed 12 [] [] [] (by kernel_rfl) (Nat.le_of_ble_eq_true rfl) (by simp [settled_ints, settled_I, settled_fn0, settled_intss, settled_bool, settled_nil, settled_zA, settled_qA, settled_zR, settled_ofA, settled_int]) (vc_soundN 1000 ?_); simp (config := { maxSteps := 2000000 }) only [AS.start, ↓wPre, wA, ↓reduceIte, reduceIte, reduceCtorEq, Y1, Y2, Y3, Y4, Y5, Y6, Y7, Y8, Y9, YA, zA, qA, qC, wN]
  refine call_fn cx rfl ?_
  simp only [↓wPre, wA, ↓reduceIte, reduceIte, reduceCtorEq, Y1, Y2, Y3, Y4, Y5, Y6, Y7, Y8, Y9, YA, zA, qA, qC, wN]
  refine call_fn cy rfl ?_
  simp only [↓wPre, wA, ↓reduceIte, reduceIte, reduceCtorEq, Y1, Y2, Y3, Y4, Y5, Y6, Y7, Y8, Y9, YA, zA, qA, qC, wN]
  refine run_loop (rgcdSt x y) (gcdI x y) (fun p => p.2) (x.natAbs, y.natAbs) ⟨rfl, hx, hy⟩ ?_ ?_
  · exact sub_mk rfl (by simp [rgcdSt, subL]) (by simp [rgcdSt, subT]) rfl
  rintro ⟨A, B⟩ ⟨g1, g2, g3⟩ next
  simp only at g1 g2 g3
  by_cases hB : B = 0
  · have f1 : (0 < (digs B).length) = False := eq_false (by have := @digs_len_zero B; omega)
    have f2 : (0 < ((digs B).length : Int)) = False := eq_false (by have := @digs_len_zero B; omega)
    refine vc_soundN 1000 ?_
    simp only [rgcdSt, f1, f2, ↓wPre, wA, ↓reduceIte, reduceIte, reduceCtorEq, Y1, Y2, Y3, Y4, Y5, Y6, Y7, Y8, Y9, YA, zA, qA, qC, wN]
    refine retRefE rfl ldk26 rfl rfl rfl hR sR ?_
    rw [hB, Nat.gcd_zero_right] at g1
    rw [← g1]
    exact ⟨Weak.rfl' _, Weak.rfl' _, trivial⟩
  have f1 : (0 < (digs B).length) = True := eq_true (by have := @digs_len_zero B; omega)
  have f2 : (0 < ((digs B).length : Int)) = True := eq_true (by have := @digs_len_zero B; omega)
  by_cases hAB : (digs A).length ≤ 2 ∧ (digs B).length ≤ 2
  · have c1 := tiny_fn _ (digs_dig A) hAB.1
    have c2 := tiny_fn _ (digs_dig B) hAB.2
    rw [digs_val] at c1 c2
    have k1 : (((digs A).length : Int) ≤ 2) = True := eq_true (by omega)
    have k2 : (((digs B).length : Int) ≤ 2) = True := eq_true (by omega)
    have l1 := digs_len2 hAB.1
    have l2 := digs_len2 hAB.2
    refine vc_soundN 1000 ?_
    simp only [rgcdSt, f1, f2, k1, k2, ↓wPre, wA, ↓reduceIte, reduceIte, reduceCtorEq, Y1, Y2, Y3, Y4, Y5, Y6, Y7, Y8, Y9, YA, zA, qA, qC, wN]
    refine call_fn c1 rfl ?_
    simp only [↓wPre, wA, ↓reduceIte, reduceIte, reduceCtorEq, Y1, Y2, Y3, Y4, Y5, Y6, Y7, Y8, Y9, YA, zA, qA, qC, wN]
    refine call_fn c2 rfl ?_
    simp only [↓wPre, wA, ↓reduceIte, reduceIte, reduceCtorEq, Y1, Y2, Y3, Y4, Y5, Y6, Y7, Y8, Y9, YA, zA, qA, qC, wN]
    refine run_loop (rgcdSt2 x y A B) (fun p => Nat.gcd p.1 p.2 = Int.gcd x y ∧ (p.1 : Int) < 1000000000000000000 ∧ (p.2 : Int) < 1000000000000000000) (fun p => p.2) (A, B) ⟨g1, l1, l2⟩ (sub_mk rfl (by simp [rgcdSt2, subL, I]) (by simp [rgcdSt2, subT]) rfl) ?_
    rintro ⟨m, n⟩ ⟨h1, h2, h3⟩ next2
    simp only at h1 h2 h3
    by_cases hn : n = 0
    · have j1 : (0 < (n : Int)) = False := eq_false (by omega)
      have j1' : (0 < n) = False := eq_false (by omega)
      have hm : m = Int.gcd x y := by rw [hn, Nat.gcd_zero_right] at h1; exact h1
      have cu := rofZ_fn (m : Int) ⟨by omega, by omega⟩
      rw [zA_nat] at cu
      refine vc_soundN 1000 ?_
      simp only [rgcdSt2, j1, j1', ↓wPre, wA, ↓reduceIte, reduceIte, reduceCtorEq, Y1, Y2, Y3, Y4, Y5, Y6, Y7, Y8, Y9, YA, zA, qA, qC, wN]
      refine call_fn cu rfl ?_
      simp only [↓wPre, wA, ↓reduceIte, reduceIte, reduceCtorEq, Y1, Y2, Y3, Y4, Y5, Y6, Y7, Y8, Y9, YA, zA, qA, qC, wN]
      refine retRefE rfl ldk26 rfl rfl rfl hR sR ?_
      rw [← hm]
      exact ⟨Weak.rfl' _, Weak.rfl' _, trivial⟩
    · have j1 : (0 < (n : Int)) = True := eq_true (by omega)
      have j1' : (0 < n) = True := eq_true (by omega)
      have j2 : ((n : Int) = 0) = False := eq_false (by omega)
      have e2 : (m : Int).tmod n = ((m % n : Nat) : Int) := rfl
      have hlt : m % n < n := Nat.mod_lt _ (by omega)
      refine vc_soundN 1000 ?_
      simp only [rgcdSt2, j1, j1', j2, e2, ↓wPre, wA, ↓reduceIte, reduceIte, reduceCtorEq, Y1, Y2, Y3, Y4, Y5, Y6, Y7, Y8, Y9, YA, zA, qA, qC, wN]
      refine next2 (n, m % n) _ ⟨?_, h3, by simp only; omega⟩ hlt (sub_mk rfl (by simp [rgcdSt2, subL, I]) (by simp [rgcdSt2, subT]) rfl)
      simp only
      rw [← h1, Nat.gcd_comm m n, Nat.gcd_rec n m, Nat.gcd_comm]
  · have cd := rdivz_fn (A : Int) (B : Int) (by rw [bl_nat]; exact g2) (by rw [bl_nat]; exact g3) (by omega)
    rw [show (A : Int) / B = ((A / B : Nat) : Int) from rfl, show (A : Int) % B = ((A % B : Nat) : Int) from rfl, zA_nat, zA_nat, zA_nat, zA_nat] at cd
    have hlt : A % B < B := Nat.mod_lt _ (by omega)
    have gnew : gcdI x y (B, A % B) := by
      refine ⟨?_, g3, ?_⟩
      · simp only
        rw [← g1, Nat.gcd_comm A B, Nat.gcd_rec B A, Nat.gcd_comm]
      · have := bl_mono (y := ((A % B : Nat) : Int)) (z := (B : Int)) (by omega)
        rw [bl_nat, bl_nat] at this
        simp only; omega
    by_cases hA2 : (digs A).length ≤ 2
    · have k1 : (((digs A).length : Int) ≤ 2) = True := eq_true (by omega)
      have k2 : (((digs B).length : Int) ≤ 2) = False := eq_false fun h => hAB ⟨hA2, by omega⟩
      refine vc_soundN 1000 ?_
      simp only [rgcdSt, f1, f2, k1, k2, ↓wPre, wA, ↓reduceIte, reduceIte, reduceCtorEq, Y1, Y2, Y3, Y4, Y5, Y6, Y7, Y8, Y9, YA, zA, qA, qC, wN]
      refine call_fn cd rfl ?_
      simp only [↓wPre, wA, ↓reduceIte, reduceIte, reduceCtorEq, Y1, Y2, Y3, Y4, Y5, Y6, Y7, Y8, Y9, YA, zA, qA, qC, wN]
      exact next (B, A % B) _ gnew hlt (sub_cut (m := 5) (Nat.zero_le _) rfl (by simp [zA, qA, qC, wN, rgcdSt, subL, ints, sl1, I]) (by simp [zA, qA, qC, wN, rgcdSt, subT]) (by simp [zA, qA, qC, wN, rgcdSt, ints, sl1, I]) (by simp [zA, qA, qC, wN, rgcdSt, wBel]) (by simp [zA, qA, qC, wN, rgcdSt, wBel]) (by simp [zA, qA, qC, wN, rgcdSt, wBel]))
    · have k1 : (((digs A).length : Int) ≤ 2) = False := eq_false (by omega)
      refine vc_soundN 1000 ?_
      simp only [rgcdSt, f1, f2, k1, ↓wPre, wA, ↓reduceIte, reduceIte, reduceCtorEq, Y1, Y2, Y3, Y4, Y5, Y6, Y7, Y8, Y9, YA, zA, qA, qC, wN]
      refine call_fn cd rfl ?_
      simp only [↓wPre, wA, ↓reduceIte, reduceIte, reduceCtorEq, Y1, Y2, Y3, Y4, Y5, Y6, Y7, Y8, Y9, YA, zA, qA, qC, wN]
      exact next (B, A % B) _ gnew hlt (sub_cut (m := 5) (Nat.zero_le _) rfl (by simp [zA, qA, qC, wN, rgcdSt, subL, ints, sl1, I]) (by simp [zA, qA, qC, wN, rgcdSt, subT]) (by simp [zA, qA, qC, wN, rgcdSt, ints, sl1, I]) (by simp [zA, qA, qC, wN, rgcdSt, wBel]) (by simp [zA, qA, qC, wN, rgcdSt, wBel]) (by simp [zA, qA, qC, wN, rgcdSt, wBel]))
end
end Go.Ab.N
namespace Go.Ab.N
open Go Go.RowKit Go.Proofs
noncomputable section
set_option maxRecDepth 10000
set_option maxHeartbeats 2000000
open Classical

theorem samez_fn (n1 n2 : Bool) (a b : List Int) (la : a.length < 4611686018427387904) (lb : b.length < 4611686018427387904) : Fn Tryz.prog 174 [zR n1 a, zR n2 b] (.bool (decide (n1 = n2) && decide (a = b))) := by
  obtain ⟨V, hV⟩ : ∃ V, V = (decide (n1 = n2) && decide (a = b)) := ⟨_, rfl⟩
  rw [← hV]
  have fin : ∀ {s : AS} {v : Bool}, s.get 4 = .bool v → v = V → RetOk (envP Tryz.prog Tryz.f174 [] [] (.bool V)) s := fun h e => ret1E rfl h (settled_bool _) (by rw [e])
  refine Fn.intro (fn := Tryz.f174) Tryz.call174 Tryz.func174 rfl mixed 6 [] [] [] (by kernel_rfl) (Nat.le_of_ble_eq_true rfl) (by simp [settled_zR]) (vc_soundN 1000 ?_)
  by_cases hn : n1 = n2
  rotate_left
  · have hb : (!(n1 == n2)) = true := by simp [hn]
    simp only [AS.start, zR, hb, ↓wPre, wA, ↓reduceIte, reduceIte, reduceCtorEq, Y1, Y2, Y3, Y4, Y5, Y6, Y7, Y8, Y9, YA, zA, qA, qC, wN]
    exact fin rfl (by rw [hV, decide_eq_false hn]; rfl)
  subst hn
  have hb : (!(n1 == n1)) = false := by simp
  by_cases hl : a.length = b.length
  rotate_left
  · have f1 : ((a.length : Int) = b.length) = False := eq_false (by omega)
    have f1' : (a.length = b.length) = False := eq_false hl
    simp only [AS.start, zR, hb, f1, f1', ↓wPre, wA, ↓reduceIte, reduceIte, reduceCtorEq, Y1, Y2, Y3, Y4, Y5, Y6, Y7, Y8, Y9, YA, zA, qA, qC, wN]
    exact fin rfl (by rw [hV, decide_eq_false (show ¬ a = b from fun e => hl (by rw [e])), Bool.and_false])
  have f1 : ((a.length : Int) = b.length) = True := eq_true (by omega)
  have f1' : (a.length = b.length) = True := eq_true hl
  simp only [AS.start, zR, hb, f1, f1', ↓wPre, wA, ↓reduceIte, reduceIte, reduceCtorEq, Y1, Y2, Y3, Y4, Y5, Y6, Y7, Y8, Y9, YA, zA, qA, qC, wN]
  refine run_loop (fun j : Nat => ⟨6, [], [.any, .any, .ref 0 0 0, .ref 1 0 0, .any, I j], [], [.row 0 2 (ofL [.bool n1, ints a]), .row 0 2 (ofL [.bool n1, ints b])]⟩) (fun j => j ≤ a.length ∧ ∀ i, i < j → a.getD i 0 = b.getD i 0) (fun j => a.length - j) 0 ⟨by omega, by omega⟩
    (sub_mk rfl (by simp [subL, ints, sl1, I]) (by simp [subT]) rfl) ?_
  rintro j ⟨hj, hno⟩ next
  have w1 := wj j (by omega)
  by_cases hj2 : j < a.length
  · have f2 : ((j : Int) < a.length) = True := eq_true (by omega)
    have f3 : (j < a.length) = True := eq_true hj2
    have f4 : (j < b.length) = True := eq_true (by omega)
    refine vc_soundN 1000 ?_
    simp only [w1, f2, f3, f4, ↓wPre, wA, ↓reduceIte, reduceIte, reduceCtorEq, Y1, Y2, Y3, Y4, Y5, Y6, Y7, Y8, Y9, YA, zA, qA, qC, wN]
    refine ⟨fun h => fin rfl ?_, fun h => next (j + 1) _ ⟨by omega, fun i hi => ?_⟩ (by omega) (sub_mk rfl (by simp [subL, ints, sl1, I]) (by simp [subT]) rfl)⟩
    · rw [hV, decide_eq_false (show ¬ a = b from fun e => h (by rw [e])), Bool.and_false]
    · by_cases e : i = j
      · rw [e]; exact h
      · exact hno i (by omega)
  · have f2 : ((j : Int) < a.length) = False := eq_false (by omega)
    have f3 : (j < a.length) = False := eq_false hj2
    refine vc_soundN 1000 ?_
    simp only [w1, f2, f3, ↓wPre, wA, ↓reduceIte, reduceIte, reduceCtorEq, Y1, Y2, Y3, Y4, Y5, Y6, Y7, Y8, Y9, YA, zA, qA, qC, wN]
    refine fin rfl ?_
    have : a = b := List.ext_getElem hl fun i h1 h2 => by
      have := hno i (by omega)
      rw [List.getD_eq_getElem?_getD, List.getElem?_eq_getElem h1, List.getD_eq_getElem?_getD, List.getElem?_eq_getElem h2] at this
      exact this
    rw [hV, decide_eq_true this]; simp
theorem same04_fn (x y : RQ) (hx : x.sz < 4611686018427387904) (hy : y.sz < 4611686018427387904) : Fn Tryz.prog 86 [x.A, y.A] (.bool (decide (x = y))) := by
  have c1 := samez_fn x.pn y.pn x.pd y.pd (by unfold RQ.sz at hx; omega) (by unfold RQ.sz at hy; omega)
  have c2 := samez_fn x.qn y.qn x.qd y.qd (by unfold RQ.sz at hx; omega) (by unfold RQ.sz at hy; omega)
  obtain ⟨V, hV⟩ : ∃ V, V = decide (x = y) := ⟨_, rfl⟩
  rw [← hV]
  have e := RQ.eq_iff x y
  obtain ⟨B1, hB1⟩ : ∃ B, B = (decide (x.pn = y.pn) && decide (x.pd = y.pd)) := ⟨_, rfl⟩
  obtain ⟨B2, hB2⟩ : ∃ B, B = (decide (x.qn = y.qn) && decide (x.qd = y.qd)) := ⟨_, rfl⟩
  rw [← hB1] at c1
  rw [← hB2] at c2
  have hVB : V = (B1 && B2) := by
    rw [hV, hB1, hB2]
    simp only [e, Bool.decide_and]
  refine Fn.intro (fn := Tryz.f86) Tryz.call86 Tryz.func86 rfl mixed 5 [] [] [] (by kernel_rfl) (Nat.le_of_ble_eq_true rfl) (by simp [settled_RQ]) (vc_soundN 1000 ?_)
  simp only [AS.start, RQ.A, RQ.L, ↓wPre, wA, ↓reduceIte, reduceIte, reduceCtorEq, Y1, Y2, Y3, Y4, Y5, Y6, Y7, Y8, Y9, YA, zA, qA, qC, wN]
  refine call_fn c1 rfl ?_
  cases B1
  · simp only [↓wPre, wA, ↓reduceIte, reduceIte, reduceCtorEq, Y1, Y2, Y3, Y4, Y5, Y6, Y7, Y8, Y9, YA, zA, qA, qC, wN]
    exact ret1E (v := .bool false) rfl rfl (settled_bool _) (by rw [hVB]; rfl)
  · simp only [↓wPre, wA, ↓reduceIte, reduceIte, reduceCtorEq, Y1, Y2, Y3, Y4, Y5, Y6, Y7, Y8, Y9, YA, zA, qA, qC, wN]
    refine call_fn c2 rfl ?_
    simp only [↓wPre, wA, ↓reduceIte, reduceIte, reduceCtorEq, Y1, Y2, Y3, Y4, Y5, Y6, Y7, Y8, Y9, YA, zA, qA, qC, wN]
    exact ret1E (v := .bool B2) rfl rfl (settled_bool _) (by rw [hVB]; rfl)
theorem same04Q_fn (a b : Rat) (ha : qb a ≤ rm) (hb : qb b ≤ rm) : Fn Tryz.prog 86 [qA a, qA b] (.bool (decide (a = b))) := by
  unfold rm at ha hb
  have h1 := RQ.of_sz a
  have h2 := RQ.of_sz b
  have := same04_fn (RQ.of a) (RQ.of b) (by omega) (by omega)
  rw [show decide (RQ.of a = RQ.of b) = decide (a = b) from decide_eq_decide.2 ⟨RQ.of_inj, fun h => by rw [h]⟩] at this
  exact this
theorem one04_fn (neg : Bool) (d : List Int) : Fn Tryz.prog 167 [zR neg d] (.bool (!neg && decide (d = [1]))) := by
  have hone : (d = [1]) ↔ d.length = 1 ∧ d.getD 0 0 = 1 := by
    constructor
    · rintro rfl; exact ⟨rfl, rfl⟩
    · rintro ⟨h1, h2⟩
      obtain ⟨x, rfl⟩ := List.length_eq_one_iff.1 h1
      rw [show x = 1 from h2]
  obtain ⟨V, hV⟩ : ∃ V, V = (!neg && decide (d = [1])) := ⟨_, rfl⟩
  rw [← hV]
  have fin : ∀ {s : AS} {v : Bool}, s.get 2 = .bool v → v = V → RetOk (envP Tryz.prog Tryz.f167 [] [] (.bool V)) s := fun h e => ret1E rfl h (settled_bool _) (by rw [e])
  by_cases h0 : d.length = 1
  · have f1 : (d.length = 1) = True := eq_true h0
    have f2 : ((d.length : Int) = 1) = True := eq_true (by omega)
    have f3 : (0 < d.length) = True := eq_true (by omega)
    have f4 : (0 < (d.length : Int)) = True := eq_true (by omega)
    refine Fn.intro (fn := Tryz.f167) Tryz.call167 Tryz.func167 rfl mixed 3 [] [] [] (by kernel_rfl) (Nat.le_of_ble_eq_true rfl) (by simp [settled_zR]) (vc_soundN 1000 ?_)
    cases neg
    all_goals
      simp only [AS.start, zR, f1, f2, f3, f4, ↓wPre, wA, ↓reduceIte, reduceIte, reduceCtorEq, Y1, Y2, Y3, Y4, Y5, Y6, Y7, Y8, Y9, YA, zA, qA, qC, wN]
      exact fin rfl (by rw [hV]; simp [hone, h0])
  · have f1 : (d.length = 1) = False := eq_false h0
    have f2 : ((d.length : Int) = 1) = False := eq_false (by omega)
    have hne : ¬ d = [1] := fun h => h0 (hone.1 h).1
    refine Fn.intro (fn := Tryz.f167) Tryz.call167 Tryz.func167 rfl mixed 3 [] [] [] (by kernel_rfl) (Nat.le_of_ble_eq_true rfl) (by simp [settled_zR]) (vc_soundN 1000 ?_)
    cases neg
    all_goals
      simp only [AS.start, zR, f1, f2, ↓wPre, wA, ↓reduceIte, reduceIte, reduceCtorEq, Y1, Y2, Y3, Y4, Y5, Y6, Y7, Y8, Y9, YA, zA, qA, qC, wN]
      exact fin rfl (by rw [hV]; simp [hne])
theorem onez_fn (z : Int) : Fn Tryz.prog 167 [zA z] (.bool (decide (z = 1))) := by
  have := one04_fn (decide (z < 0)) (digs z.natAbs)
  rw [unit_z] at this; exact this
theorem make04_fn (p q : Int) (hp : bl p < 1000000000) (hq : bl q < 1000000000) : Fn Tryz.prog 77 [zA p, zA q] (qA (Rat.divInt p q)) := by
  obtain ⟨R, hR⟩ : ∃ R, R = qA (Rat.divInt p q) := ⟨_, rfl⟩
  have sR : Settled R := hR ▸ settled_qA _
  have zp : (((digs p.natAbs).length : Int) = 0) = (p = 0) := propext (by have := @digs_len_zero p.natAbs; omega)
  have zq : (((digs q.natAbs).length : Int) = 0) = (q = 0) := propext (by have := @digs_len_zero q.natAbs; omega)
  have z0 : p = 0 ∨ q = 0 → R = .agg [.bool false, ints [], .bool false, ints []] := by
    intro h
    rw [hR, ← qA_zero]
    rcases h with rfl | rfl
    · rw [Rat.zero_divInt]
    · rw [Rat.divInt_zero]
  rw [← hR]
  by_cases hq0 : q = 0
  · have f1 : (q = 0) = True := eq_true hq0
    refine Fn.intro (fn := Tryz.f77) Tryz.call77 Tryz.func77 rfl mixed 10 [] [] [] (by kernel_rfl) (Nat.le_of_ble_eq_true rfl) (by simp [settled_ints, settled_I, settled_fn0, settled_intss, settled_bool, settled_nil, settled_zA, settled_qA, settled_zR, settled_ofA, settled_int]) (vc_soundN 1000 ?_); simp (config := { maxSteps := 2000000 }) only [AS.start, ↓wPre, wA, ↓reduceIte, reduceIte, reduceCtorEq, Y1, Y2, Y3, Y4, Y5, Y6, Y7, Y8, Y9, YA, zA, qA, qC, wN]
    simp only [zq, f1, ↓wPre, wA, ↓reduceIte, reduceIte, reduceCtorEq, Y1, Y2, Y3, Y4, Y5, Y6, Y7, Y8, Y9, YA, zA, qA, qC, wN]
    exact retRefE rfl ldk28 rfl rfl rfl (z0 (.inr hq0)) sR ⟨Weak.rfl' _, weak_emp _ _, Weak.rfl' _, weak_emp _ _, trivial⟩
  have f1 : (q = 0) = False := eq_false hq0
  by_cases hp0 : p = 0
  · have f3 : (p = 0) = True := eq_true hp0
    refine Fn.intro (fn := Tryz.f77) Tryz.call77 Tryz.func77 rfl mixed 10 [] [] [] (by kernel_rfl) (Nat.le_of_ble_eq_true rfl) (by simp [settled_ints, settled_I, settled_fn0, settled_intss, settled_bool, settled_nil, settled_zA, settled_qA, settled_zR, settled_ofA, settled_int]) (vc_soundN 1000 ?_); simp (config := { maxSteps := 2000000 }) only [AS.start, ↓wPre, wA, ↓reduceIte, reduceIte, reduceCtorEq, Y1, Y2, Y3, Y4, Y5, Y6, Y7, Y8, Y9, YA, zA, qA, qC, wN]
    simp only [zp, zq, f1, f3, ↓wPre, wA, ↓reduceIte, reduceIte, reduceCtorEq, Y1, Y2, Y3, Y4, Y5, Y6, Y7, Y8, Y9, YA, zA, qA, qC, wN]
    exact retRefE rfl ldk28 rfl rfl rfl (z0 (.inl hp0)) sR ⟨Weak.rfl' _, weak_emp _ _, Weak.rfl' _, weak_emp _ _, trivial⟩
  have f3 : (p = 0) = False := eq_false hp0
  have cg := rgcdz_fn p q hp hq
  obtain ⟨g, hg⟩ : ∃ g : Int, g = Int.gcd p q := ⟨_, rfl⟩
  have hg0 : 0 < Int.gcd p q := Int.gcd_pos_of_ne_zero_right _ hq0
  have hgq : bl g ≤ bl q := bl_mono (by
    have := Nat.le_of_dvd (by omega) (Int.gcd_dvd_natAbs_right p q)
    omega)
  rw [← hg] at cg
  obtain ⟨d1, d2, d3⟩ := divInt_of_parts p q hq0 g hg
  have c1 := rdivz_fn p g hp (by omega) (by omega)
  have c2 := rdivz_fn q g hq (by omega) (by omega)
  obtain ⟨u, hu⟩ : ∃ u, u = p / g := ⟨_, rfl⟩
  obtain ⟨v, hv⟩ : ∃ v, v = q / g := ⟨_, rfl⟩
  have hub : bl u ≤ bl p := bl_mono (by rw [hu]; exact Int.natAbs_ediv_le_natAbs p g)
  have hvb : bl v ≤ bl q := bl_mono (by rw [hv]; exact Int.natAbs_ediv_le_natAbs q g)
  rw [← hu] at c1 d1 d2
  rw [← hv] at c2 d1 d2 d3
  obtain ⟨e1, e2⟩ := divInt_low u v d3 d2
  have key : ∀ p' q' : Int, p' = v.sign * u → q' = v.natAbs → (q' = 1 → R = .agg [.bool (decide (p' < 0)), ints (digs p'.natAbs), .bool false, ints []]) ∧ (¬ q' = 1 → R = .agg [.bool (decide (p' < 0)), ints (digs p'.natAbs), .bool false, ints (digs q'.natAbs)]) := by
    intro p' q' hp' hq'
    constructor
    · intro h
      rw [hR, ← d1, qA_int (by omega), e1, hp']
    · intro h
      rw [hR, ← d1, qA_frac (by omega), e1, hp', e2, hq', Int.natAbs_natCast]
  by_cases hneg : v < 0
  · have g1 : (v < 0) = True := eq_true hneg
    obtain ⟨k1, k2⟩ := key (-u) (-v) (by rw [Int.sign_eq_neg_one_of_neg hneg]; omega) (by omega)
    have co := onez_fn (-v)
    have cn1 := rnegz_fn u (by unfold room; omega)
    have cn2 := rnegz_fn v (by unfold room; omega)
    rw [zA_lt hneg] at cn2 c2
    have f5 : decide (-v < 0) = false := decide_eq_false (by omega)
    by_cases h1 : -v = 1
    · simp only [h1, decide_true] at co
      have hk := k1 h1
      rw [h1] at cn2
      refine Fn.intro (fn := Tryz.f77) Tryz.call77 Tryz.func77 rfl mixed 10 [] [] [] (by kernel_rfl) (Nat.le_of_ble_eq_true rfl) (by simp [settled_ints, settled_I, settled_fn0, settled_intss, settled_bool, settled_nil, settled_zA, settled_qA, settled_zR, settled_ofA, settled_int]) (vc_soundN 1000 ?_); simp (config := { maxSteps := 2000000 }) only [AS.start, ↓wPre, wA, ↓reduceIte, reduceIte, reduceCtorEq, Y1, Y2, Y3, Y4, Y5, Y6, Y7, Y8, Y9, YA, zA, qA, qC, wN]
      simp only [zp, zq, f1, f3, ↓wPre, wA, ↓reduceIte, reduceIte, reduceCtorEq, Y1, Y2, Y3, Y4, Y5, Y6, Y7, Y8, Y9, YA, zA, qA, qC, wN]
      refine call_fn cg rfl ?_
      simp only [↓wPre, wA, ↓reduceIte, reduceIte, reduceCtorEq, Y1, Y2, Y3, Y4, Y5, Y6, Y7, Y8, Y9, YA, zA, qA, qC, wN]
      refine call_fn c1 rfl ?_
      simp only [↓wPre, wA, ↓reduceIte, reduceIte, reduceCtorEq, Y1, Y2, Y3, Y4, Y5, Y6, Y7, Y8, Y9, YA, zA, qA, qC, wN]
      refine call_fn c2 rfl ?_
      simp only [↓wPre, wA, ↓reduceIte, reduceIte, reduceCtorEq, Y1, Y2, Y3, Y4, Y5, Y6, Y7, Y8, Y9, YA, zA, qA, qC, wN]
      refine call_fn cn1 rfl ?_
      simp only [↓wPre, wA, ↓reduceIte, reduceIte, reduceCtorEq, Y1, Y2, Y3, Y4, Y5, Y6, Y7, Y8, Y9, YA, zA, qA, qC, wN]
      refine call_fn cn2 rfl ?_
      simp only [↓wPre, wA, ↓reduceIte, reduceIte, reduceCtorEq, Y1, Y2, Y3, Y4, Y5, Y6, Y7, Y8, Y9, YA, zA, qA, qC, wN]
      refine call_fn co rfl ?_
      simp only [↓wPre, wA, ↓reduceIte, reduceIte, reduceCtorEq, Y1, Y2, Y3, Y4, Y5, Y6, Y7, Y8, Y9, YA, zA, qA, qC, wN]
      exact retRefE rfl ldk28 rfl rfl rfl hk sR ⟨Weak.rfl' _, Weak.rfl' _, Weak.rfl' _, weak_emp _ _, trivial⟩
    · simp only [h1, decide_false] at co
      have hk := k2 h1
      refine Fn.intro (fn := Tryz.f77) Tryz.call77 Tryz.func77 rfl mixed 10 [] [] [] (by kernel_rfl) (Nat.le_of_ble_eq_true rfl) (by simp [settled_ints, settled_I, settled_fn0, settled_intss, settled_bool, settled_nil, settled_zA, settled_qA, settled_zR, settled_ofA, settled_int]) (vc_soundN 1000 ?_); simp (config := { maxSteps := 2000000 }) only [AS.start, ↓wPre, wA, ↓reduceIte, reduceIte, reduceCtorEq, Y1, Y2, Y3, Y4, Y5, Y6, Y7, Y8, Y9, YA, zA, qA, qC, wN]
      simp only [zp, zq, f1, f3, ↓wPre, wA, ↓reduceIte, reduceIte, reduceCtorEq, Y1, Y2, Y3, Y4, Y5, Y6, Y7, Y8, Y9, YA, zA, qA, qC, wN]
      refine call_fn cg rfl ?_
      simp only [↓wPre, wA, ↓reduceIte, reduceIte, reduceCtorEq, Y1, Y2, Y3, Y4, Y5, Y6, Y7, Y8, Y9, YA, zA, qA, qC, wN]
      refine call_fn c1 rfl ?_
      simp only [↓wPre, wA, ↓reduceIte, reduceIte, reduceCtorEq, Y1, Y2, Y3, Y4, Y5, Y6, Y7, Y8, Y9, YA, zA, qA, qC, wN]
      refine call_fn c2 rfl ?_
      simp only [↓wPre, wA, ↓reduceIte, reduceIte, reduceCtorEq, Y1, Y2, Y3, Y4, Y5, Y6, Y7, Y8, Y9, YA, zA, qA, qC, wN]
      refine call_fn cn1 rfl ?_
      simp only [↓wPre, wA, ↓reduceIte, reduceIte, reduceCtorEq, Y1, Y2, Y3, Y4, Y5, Y6, Y7, Y8, Y9, YA, zA, qA, qC, wN]
      refine call_fn cn2 rfl ?_
      simp only [↓wPre, wA, ↓reduceIte, reduceIte, reduceCtorEq, Y1, Y2, Y3, Y4, Y5, Y6, Y7, Y8, Y9, YA, zA, qA, qC, wN]
      refine call_fn co rfl ?_
      simp only [↓wPre, wA, ↓reduceIte, reduceIte, reduceCtorEq, Y1, Y2, Y3, Y4, Y5, Y6, Y7, Y8, Y9, YA, zA, qA, qC, wN]
      exact retA rfl ldk28 rfl rfl rfl sR (by rw [hk, f5]; rfl)
  · have g1 : (v < 0) = False := eq_false hneg
    obtain ⟨k1, k2⟩ := key u v (by rw [Int.sign_eq_one_of_pos (by omega)]; omega) (by omega)
    have co := onez_fn v
    rw [zA_ge hneg] at co c2
    by_cases h1 : v = 1
    · simp only [h1, decide_true] at co
      have hk := k1 h1
      rw [h1] at c2
      refine Fn.intro (fn := Tryz.f77) Tryz.call77 Tryz.func77 rfl mixed 10 [] [] [] (by kernel_rfl) (Nat.le_of_ble_eq_true rfl) (by simp [settled_ints, settled_I, settled_fn0, settled_intss, settled_bool, settled_nil, settled_zA, settled_qA, settled_zR, settled_ofA, settled_int]) (vc_soundN 1000 ?_); simp (config := { maxSteps := 2000000 }) only [AS.start, ↓wPre, wA, ↓reduceIte, reduceIte, reduceCtorEq, Y1, Y2, Y3, Y4, Y5, Y6, Y7, Y8, Y9, YA, zA, qA, qC, wN]
      simp only [zp, zq, f1, f3, ↓wPre, wA, ↓reduceIte, reduceIte, reduceCtorEq, Y1, Y2, Y3, Y4, Y5, Y6, Y7, Y8, Y9, YA, zA, qA, qC, wN]
      refine call_fn cg rfl ?_
      simp only [↓wPre, wA, ↓reduceIte, reduceIte, reduceCtorEq, Y1, Y2, Y3, Y4, Y5, Y6, Y7, Y8, Y9, YA, zA, qA, qC, wN]
      refine call_fn c1 rfl ?_
      simp only [↓wPre, wA, ↓reduceIte, reduceIte, reduceCtorEq, Y1, Y2, Y3, Y4, Y5, Y6, Y7, Y8, Y9, YA, zA, qA, qC, wN]
      refine call_fn c2 rfl ?_
      simp only [↓wPre, wA, ↓reduceIte, reduceIte, reduceCtorEq, Y1, Y2, Y3, Y4, Y5, Y6, Y7, Y8, Y9, YA, zA, qA, qC, wN]
      refine call_fn co rfl ?_
      simp only [↓wPre, wA, ↓reduceIte, reduceIte, reduceCtorEq, Y1, Y2, Y3, Y4, Y5, Y6, Y7, Y8, Y9, YA, zA, qA, qC, wN]
      exact retRefE rfl ldk28 rfl rfl rfl hk sR ⟨Weak.rfl' _, Weak.rfl' _, Weak.rfl' _, weak_emp _ _, trivial⟩
    · simp only [h1, decide_false] at co
      have hk := k2 h1
      refine Fn.intro (fn := Tryz.f77) Tryz.call77 Tryz.func77 rfl mixed 10 [] [] [] (by kernel_rfl) (Nat.le_of_ble_eq_true rfl) (by simp [settled_ints, settled_I, settled_fn0, settled_intss, settled_bool, settled_nil, settled_zA, settled_qA, settled_zR, settled_ofA, settled_int]) (vc_soundN 1000 ?_); simp (config := { maxSteps := 2000000 }) only [AS.start, ↓wPre, wA, ↓reduceIte, reduceIte, reduceCtorEq, Y1, Y2, Y3, Y4, Y5, Y6, Y7, Y8, Y9, YA, zA, qA, qC, wN]
      simp only [zp, zq, f1, f3, ↓wPre, wA, ↓reduceIte, reduceIte, reduceCtorEq, Y1, Y2, Y3, Y4, Y5, Y6, Y7, Y8, Y9, YA, zA, qA, qC, wN]
      refine call_fn cg rfl ?_
      simp only [↓wPre, wA, ↓reduceIte, reduceIte, reduceCtorEq, Y1, Y2, Y3, Y4, Y5, Y6, Y7, Y8, Y9, YA, zA, qA, qC, wN]
      refine call_fn c1 rfl ?_
      simp only [↓wPre, wA, ↓reduceIte, reduceIte, reduceCtorEq, Y1, Y2, Y3, Y4, Y5, Y6, Y7, Y8, Y9, YA, zA, qA, qC, wN]
      refine call_fn c2 rfl ?_
      simp only [↓wPre, wA, ↓reduceIte, reduceIte, reduceCtorEq, Y1, Y2, Y3, Y4, Y5, Y6, Y7, Y8, Y9, YA, zA, qA, qC, wN]
      refine call_fn co rfl ?_
      simp only [↓wPre, wA, ↓reduceIte, reduceIte, reduceCtorEq, Y1, Y2, Y3, Y4, Y5, Y6, Y7, Y8, Y9, YA, zA, qA, qC, wN]
      exact retA rfl ldk28 rfl rfl rfl sR (by rw [hk]; rfl)
theorem of04_fn (p q : Int) (hp : in64 p) (hq : in64 q) : Fn Tryz.prog 16 [I p, I q] (qA (Rat.divInt p q)) := by
  obtain ⟨R, hR⟩ : ∃ R, R = qA (Rat.divInt p q) := ⟨_, rfl⟩
  have sR : Settled R := hR ▸ settled_qA _
  have cm := make04_fn p q (by have := bl_i64 hp; omega) (by have := bl_i64 hq; omega)
  rw [← hR] at cm ⊢
  refine Fn.intro (fn := Tryz.f16) Tryz.call16 Tryz.func16 rfl mixed 5 [] [] [] (by kernel_rfl) (Nat.le_of_ble_eq_true rfl) (by simp [settled_ints, settled_I, settled_fn0, settled_intss, settled_bool, settled_nil, settled_zA, settled_qA, settled_zR, settled_ofA, settled_int]) (vc_soundN 1000 ?_); simp (config := { maxSteps := 2000000 }) only [AS.start, ↓wPre, wA, ↓reduceIte, reduceIte, reduceCtorEq, Y1, Y2, Y3, Y4, Y5, Y6, Y7, Y8, Y9, YA, zA, qA, qC, wN]
  refine call_fn (rofZ_fn p hp) rfl ?_
  simp only [↓wPre, wA, ↓reduceIte, reduceIte, reduceCtorEq, Y1, Y2, Y3, Y4, Y5, Y6, Y7, Y8, Y9, YA, zA, qA, qC, wN]
  refine call_fn (rofZ_fn q hq) rfl ?_
  simp only [↓wPre, wA, ↓reduceIte, reduceIte, reduceCtorEq, Y1, Y2, Y3, Y4, Y5, Y6, Y7, Y8, Y9, YA, zA, qA, qC, wN]
  refine call_fn cm rfl ?_
  simp only [hR, ↓wPre, wA, ↓reduceIte, reduceIte, reduceCtorEq, Y1, Y2, Y3, Y4, Y5, Y6, Y7, Y8, Y9, YA, zA, qA, qC, wN]
  exact retA rfl ldk28 rfl rfl rfl sR (hR.trans rfl)
end
end Go.Ab.N
