/- Contracts of functions of these chapters, for every argument that fits, and what they need. -/
import Derived.Test.YtefjhgcndhepeaaC6
set_option linter.unusedSimpArgs false
set_option linter.unusedVariables false
namespace Go.Ab.N
open Go Go.RowKit Go.Proofs
noncomputable section
set_option maxRecDepth 10000
set_option maxHeartbeats 2000000
set_option linter.unusedSimpArgs false
set_option linter.unusedVariables false
open Classical

/-- Digits without a zero at the end, in an own object: nothing is taken off, and the result is the object itself. -/
theorem normal_own (neg : Bool) (Q : List Int) (m0 n : Nat) (f : Nat → AV) (x : Int) (hf : f (n - 1) = .int .i64 x) (hx : x ≠ 0) (hne : n ≠ 0) (hl : n < 4611686018427387904) (hb : ∀ j, j < n → Bel 2 (f j)) :
    HCall Try.prog 44 [.bool neg, .osl 1 0 1 0 n] [.row 0 m0 (slF I 0 Q), .row 0 n f] (.agg [.bool neg, .osl 1 0 1 0 n]) [.row 0 m0 (slF I 0 Q), .row 0 n f] := by
  have hbO : belO 2 (.row 0 n f) = True := eq_true hb
  refine HCall.introC (fn := Try.f44) Try.call44 Try.func44 rfl mixed 6 [] [] [] (by kernel_rfl) (Nat.le_of_ble_eq_true rfl) (by simp [wBel]) (by simp [wBel, hbO]) (vc_soundN 1000 ?_)
  simp only [AS.start, ↓wPre, wPost, wFast, wCore, beq_self_eq_true, ite_true, ite_false, false_implies, true_implies, implies_true, eq_self, ne_eq, ↓reduceIte, reduceIte, Nat.reducePow, Nat.reduceLT, Nat.reduceLeDiff, Nat.reduceEqDiff, Nat.reduceAdd, Nat.reduceMul, Nat.reduceSub, Nat.reduceBEq, Nat.reduceDiv, Nat.reduceMod, reduceCtorEq, sl1, wFacts, zA, qA, qC, nb_tf, nb_ft, nb_tt, nb_ff]
  refine run_loop (fun _ : Unit => ⟨6, [], [.bool neg, .osl 1 0 1 0 n, .any, .any, .ref 2 0 0, I n], [], [.row 0 m0 (slF I 0 Q), .row 0 n f, .row 0 2 (ofL [.bool false, .sl 0 0 (fun _ => .any) true])]⟩) (fun _ => True) (fun _ => 0) () trivial (sub_mk rfl (by simp [zA, qA, qC, nb_tf, nb_ft, nb_tt, nb_ff, subL, ints, intss, bools, sl1, I]) (by simp [subT]) rfl) ?_
  rintro ⟨⟩ _ _
  have e0 : (0 < (n : Int)) = True := eq_true (by omega)
  have e1 : ((n : Int) = 0) = False := eq_false (by omega)
  have e1' : (n = 0) = False := eq_false (by omega)
  have w1 : IntKind.i64.wrap ((n : Int) - 1) = ((n - 1 : Nat) : Int) := by rw [IntKind.wrap_i64]; omega
  have w2 : (((n - 1 : Nat) : Int) < 0) = False := eq_false (by omega)
  have e2 : (n - 1 < n) = True := eq_true (by omega)
  have e3 : (x = 0) = False := eq_false hx
  refine vc_soundN 1000 ?_
  simp only [e0, e1, e1', e2, e3, w1, w2, hf, Int.sub_zero, Int.toNat_natCast, ↓wPre, wPost, wFast, wCore, beq_self_eq_true, ite_true, ite_false, false_implies, true_implies, implies_true, eq_self, ne_eq, ↓reduceIte, reduceIte, Nat.reducePow, Nat.reduceLT, Nat.reduceLeDiff, Nat.reduceEqDiff, Nat.reduceAdd, Nat.reduceMul, Nat.reduceSub, Nat.reduceBEq, Nat.reduceDiv, Nat.reduceMod, reduceCtorEq, sl1, wFacts, zA, qA, qC, nb_tf, nb_ft, nb_tt, nb_ff]
  exact retCell (v := .agg [.bool neg, .osl 1 0 1 0 n]) rfl (by simp [AS.get, aload, ldk42, rd, cellsFrom, ofL, oif_true]) rfl rfl
def divSt (a b : List Int) (B : Nat) (p : Nat) : AS :=
  ⟨16, [], [ints a, ints b, .any, .any, .any, .any, .any, .any, .osl 0 0 1 0 a.length, ints (digs (remD a B p).toNat), I ((p : Int) - 1), .any, .any, .any, .any, .any], [], [.row 0 a.length (slF I 0 (quoM a B p))]⟩
def divSt2 (a b : List Int) (B i : Nat) (R : Nat) (p : Int × Int) : AS :=
  ⟨16, [], [ints a, ints b, .any, .any, .any, .any, .any, .any, .osl 0 0 1 0 a.length, ints (digs R), I i, .any, I p.1, I p.2, .any, .any], [], [.row 0 a.length (slF I 0 (quoM a B (i + 1)))]⟩
theorem divided_fn (A B : Nat) (hA : (digs A).length < 1000000000) (hB : (digs B).length < 1000000000) (hB0 : B ≠ 0) :
    ∃ q : List Int, dig q ∧ val q = ((A / B : Nat) : Int) ∧ q.length < 1000000000 ∧ Fn Try.prog 70 [ints (digs A), ints (digs B)] (.tup [ints q, ints (digs (A % B))]) := by
  have dA := digs_dig A
  have dB := digs_dig B
  have vA := digs_val A
  have vB := digs_val B
  by_cases hs : (digs A).length ≤ 2 ∧ (digs B).length ≤ 2
  · refine ⟨digs (A / B), digs_dig _, digs_val _, ?_, ?_⟩
    · have := bl_mono (y := ((A / B : Nat) : Int)) (z := (A : Int)) (by have := Nat.div_le_self A B; generalize A / B = q at *; omega)
      rw [bl_nat, bl_nat] at this; omega
    have l1 := digs_len2 hs.1
    have l2 := digs_len2 hs.2
    have c1 := tiny_fn _ dA hs.1
    have c2 := tiny_fn _ dB hs.2
    rw [vA] at c1
    rw [vB] at c2
    have l3 : A / B ≤ A := Nat.div_le_self A B
    have l4 : A % B ≤ A := Nat.mod_le A B
    have c3 := rofZ_fn ((A / B : Nat) : Int) (by unfold in64; generalize A / B = q at *; omega)
    have c4 := rofZ_fn ((A % B : Nat) : Int) (by unfold in64; generalize A % B = q at *; omega)
    rw [zA_nat] at c3 c4
    have e1 : IntKind.i64.wrap ((A : Int).tdiv B) = ((A / B : Nat) : Int) := by
      rw [show (A : Int).tdiv B = ((A / B : Nat) : Int) from rfl]
      generalize A / B = q at *
      rw [IntKind.wrap_i64]; omega
    have e2 : (A : Int).tmod B = ((A % B : Nat) : Int) := rfl
    have f1 : (((digs A).length : Int) ≤ 2) = True := eq_true (by omega)
    have f2 : (((digs B).length : Int) ≤ 2) = True := eq_true (by omega)
    have f3 : ((B : Int) = 0) = False := eq_false (by omega)
    refine Fn.intro (fn := Try.f70) Try.call70 Try.func70 rfl mixed 16 [] [] [] (by kernel_rfl) (Nat.le_of_ble_eq_true rfl) (by simp [settled_ints, settled_I, settled_fn0, settled_intss, settled_bool, settled_nil, settled_zA, settled_qA, settled_zR, settled_ofA, settled_int]) (vc_soundN 1000 ?_); simp (config := { maxSteps := 2000000 }) only [AS.start, ↓wPre, wPost, wFast, wCore, beq_self_eq_true, ite_true, ite_false, false_implies, true_implies, implies_true, eq_self, ne_eq, ↓reduceIte, reduceIte, Nat.reducePow, Nat.reduceLT, Nat.reduceLeDiff, Nat.reduceEqDiff, Nat.reduceAdd, Nat.reduceMul, Nat.reduceSub, Nat.reduceBEq, Nat.reduceDiv, Nat.reduceMod, reduceCtorEq, sl1, wFacts, zA, qA, qC, nb_tf, nb_ft, nb_tt, nb_ff]
    simp only [f1, f2, hs.1, hs.2, ↓wPre, wPost, wFast, wCore, beq_self_eq_true, ite_true, ite_false, false_implies, true_implies, implies_true, eq_self, ne_eq, ↓reduceIte, reduceIte, Nat.reducePow, Nat.reduceLT, Nat.reduceLeDiff, Nat.reduceEqDiff, Nat.reduceAdd, Nat.reduceMul, Nat.reduceSub, Nat.reduceBEq, Nat.reduceDiv, Nat.reduceMod, reduceCtorEq, sl1, wFacts, zA, qA, qC, nb_tf, nb_ft, nb_tt, nb_ff]
    refine call_fn c1 rfl ?_
    simp only [↓wPre, wPost, wFast, wCore, beq_self_eq_true, ite_true, ite_false, false_implies, true_implies, implies_true, eq_self, ne_eq, ↓reduceIte, reduceIte, Nat.reducePow, Nat.reduceLT, Nat.reduceLeDiff, Nat.reduceEqDiff, Nat.reduceAdd, Nat.reduceMul, Nat.reduceSub, Nat.reduceBEq, Nat.reduceDiv, Nat.reduceMod, reduceCtorEq, sl1, wFacts, zA, qA, qC, nb_tf, nb_ft, nb_tt, nb_ff]
    refine call_fn c2 rfl ?_
    simp only [f3, e1, ↓wPre, wPost, wFast, wCore, beq_self_eq_true, ite_true, ite_false, false_implies, true_implies, implies_true, eq_self, ne_eq, ↓reduceIte, reduceIte, Nat.reducePow, Nat.reduceLT, Nat.reduceLeDiff, Nat.reduceEqDiff, Nat.reduceAdd, Nat.reduceMul, Nat.reduceSub, Nat.reduceBEq, Nat.reduceDiv, Nat.reduceMod, reduceCtorEq, sl1, wFacts, zA, qA, qC, nb_tf, nb_ft, nb_tt, nb_ff]
    refine call_fn c3 rfl ?_
    simp only [↓wPre, wPost, wFast, wCore, beq_self_eq_true, ite_true, ite_false, false_implies, true_implies, implies_true, eq_self, ne_eq, ↓reduceIte, reduceIte, Nat.reducePow, Nat.reduceLT, Nat.reduceLeDiff, Nat.reduceEqDiff, Nat.reduceAdd, Nat.reduceMul, Nat.reduceSub, Nat.reduceBEq, Nat.reduceDiv, Nat.reduceMod, reduceCtorEq, sl1, wFacts, zA, qA, qC, nb_tf, nb_ft, nb_tt, nb_ff]
    refine call_fn c1 rfl ?_
    simp only [↓wPre, wPost, wFast, wCore, beq_self_eq_true, ite_true, ite_false, false_implies, true_implies, implies_true, eq_self, ne_eq, ↓reduceIte, reduceIte, Nat.reducePow, Nat.reduceLT, Nat.reduceLeDiff, Nat.reduceEqDiff, Nat.reduceAdd, Nat.reduceMul, Nat.reduceSub, Nat.reduceBEq, Nat.reduceDiv, Nat.reduceMod, reduceCtorEq, sl1, wFacts, zA, qA, qC, nb_tf, nb_ft, nb_tt, nb_ff]
    refine call_fn c2 rfl ?_
    simp only [f3, e2, ↓wPre, wPost, wFast, wCore, beq_self_eq_true, ite_true, ite_false, false_implies, true_implies, implies_true, eq_self, ne_eq, ↓reduceIte, reduceIte, Nat.reducePow, Nat.reduceLT, Nat.reduceLeDiff, Nat.reduceEqDiff, Nat.reduceAdd, Nat.reduceMul, Nat.reduceSub, Nat.reduceBEq, Nat.reduceDiv, Nat.reduceMod, reduceCtorEq, sl1, wFacts, zA, qA, qC, nb_tf, nb_ft, nb_tt, nb_ff]
    refine call_fn c4 rfl ?_
    simp only [↓wPre, wPost, wFast, wCore, beq_self_eq_true, ite_true, ite_false, false_implies, true_implies, implies_true, eq_self, ne_eq, ↓reduceIte, reduceIte, Nat.reducePow, Nat.reduceLT, Nat.reduceLeDiff, Nat.reduceEqDiff, Nat.reduceAdd, Nat.reduceMul, Nat.reduceSub, Nat.reduceBEq, Nat.reduceDiv, Nat.reduceMod, reduceCtorEq, sl1, wFacts, zA, qA, qC, nb_tf, nb_ft, nb_tt, nb_ff]
    exact ret2E rfl rfl rfl (settled_ints _) (settled_ints _) rfl rfl
  have hb : (0 : Int) < B := by omega
  obtain ⟨a, ha⟩ : ∃ a, a = digs A := ⟨_, rfl⟩
  have hqa := quo_all (a := digs A) (b := (B : Int)) hb
  have hr0 : remD (digs A) B 0 = ((A % B : Nat) : Int) := by unfold remD; rw [List.drop_zero, vA]; rfl
  have hval : val (tab (quoD (digs A) B) (digs A).length) = ((A / B : Nat) : Int) := by
    rw [vA, hr0] at hqa
    have h3 := Nat.mod_add_div A B
    have h3' : ((A % B : Nat) : Int) + B * ((A / B : Nat) : Int) = A := by exact_mod_cast h3
    have h4 : (B : Int) * val (tab (quoD (digs A) B) (digs A).length) = B * ((A / B : Nat) : Int) := by omega
    exact Int.eq_of_mul_eq_mul_left (by omega) h4
  refine ⟨tab (quoD (digs A) B) (digs A).length, dig_tab fun i _ => quoD_dig dA hb i, hval, by rw [tab_len]; exact hA, ?_⟩
  obtain ⟨QQ, hQQ⟩ : ∃ r, r = ints (tab (quoD (digs A) B) (digs A).length) := ⟨_, rfl⟩
  have sQQ : Settled QQ := hQQ ▸ settled_ints _
  rw [← hQQ]
  have w00 : IntKind.i64.wrap ((digs A).length : Int) = ((digs A).length : Int) := by rw [IntKind.wrap_i64]; omega
  have w0 : IntKind.i64.wrap (((digs A).length : Int) - 1) = ((digs A).length : Int) - 1 := by rw [IntKind.wrap_i64]; omega
  refine Fn.intro (fn := Try.f70) Try.call70 Try.func70 rfl mixed 16 [] [] [] (by kernel_rfl) (Nat.le_of_ble_eq_true rfl) (by simp [settled_ints]) (vc_soundN 1000 ?_)
  have hsI : ¬ (((digs A).length : Int) ≤ 2 ∧ ((digs B).length : Int) ≤ 2) := fun h => hs ⟨by omega, by omega⟩
  simp (config := { maxSteps := 2000000 }) only [AS.start, w0, Int.toNat_natCast, ↓wPre, wPost, wFast, wCore, beq_self_eq_true, ite_true, ite_false, false_implies, true_implies, implies_true, eq_self, ne_eq, ↓reduceIte, reduceIte, Nat.reducePow, Nat.reduceLT, Nat.reduceLeDiff, Nat.reduceEqDiff, Nat.reduceAdd, Nat.reduceMul, Nat.reduceSub, Nat.reduceBEq, Nat.reduceDiv, Nat.reduceMod, reduceCtorEq, sl1, wFacts, zA, qA, qC, nb_tf, nb_ft, nb_tt, nb_ff]
  refine (fun key => ⟨fun a => ⟨fun b => absurd ⟨a, b⟩ hsI, fun _ => ⟨⟨by omega, by omega⟩, key⟩⟩, fun _ => ⟨⟨by omega, by omega⟩, key⟩⟩) ?r
  refine run_loop (divSt (digs A) (digs B) B) (fun p => p ≤ (digs A).length) (fun p => p) (digs A).length (Nat.le_refl _) ?_ ?_
  · refine (sub_rowf 0 (digs A).length (slF I 0 (quoM (digs A) B (digs A).length)) rfl (Nat.le_refl _) ?_).trans ?_
    · intro j hj
      have : (quoM (digs A) B (digs A).length).getD j 0 = 0 := by unfold quoM; rw [tab_at _ _ _ hj, if_neg (by omega)]
      rw [slF_at, this]; rfl
    refine (sub_weak 9 (ints []) (by simp) ?_).trans (sub_mk rfl ?_ ?_ ?_)
    · exact weak_emp _ _
    · simp [divSt, subL, ints, sl1, I, remD_end, digs_zero]
    · simp [divSt, subT]
    · rfl
  intro p hp next
  cases p with
  | zero =>
    have e1 : ((0 : Int) ≤ 0 - 1) = False := eq_false (by omega)
    refine vc_soundN 1000 ?_
    simp (config := { maxSteps := 2000000 }) only [divSt, e1, ↓wPre, wPost, wFast, wCore, beq_self_eq_true, ite_true, ite_false, false_implies, true_implies, implies_true, eq_self, ne_eq, ↓reduceIte, reduceIte, Nat.reducePow, Nat.reduceLT, Nat.reduceLeDiff, Nat.reduceEqDiff, Nat.reduceAdd, Nat.reduceMul, Nat.reduceSub, Nat.reduceBEq, Nat.reduceDiv, Nat.reduceMod, reduceCtorEq, sl1, wFacts, zA, qA, qC, nb_tf, nb_ft, nb_tt, nb_ff]
    refine ret2 rfl (sees_tup ⟨?_, sees_of (settled_ints _) ?_, trivial⟩)
    · rw [hQQ]
      exact sees_rowE settled_I rfl rfl (tab_len _ _).symm (by rw [quoM_zero]) (Nat.le_of_eq (tab_len _ _))
    · rw [hr0, Int.toNat_natCast]; rfl
  | succ i =>
    obtain ⟨r, hr⟩ : ∃ r, r = (remD (digs A) B (i + 1)).toNat := ⟨_, rfl⟩
    have r0 : 0 ≤ remD (digs A) B (i + 1) := Int.emod_nonneg _ (by omega)
    have r1 : remD (digs A) B (i + 1) < B := Int.emod_lt_of_pos _ hb
    have er : remD (digs A) B (i + 1) = r := by omega
    have da := dg_dig dA i
    unfold digt at da
    have eA : (digs A).getD i 0 = dg (digs A) i := rfl
    obtain ⟨x, hx⟩ : ∃ x : Nat, dg (digs A) i = x := ⟨(dg (digs A) i).toNat, by omega⟩
    rw [hx] at da eA
    obtain ⟨R, hR⟩ : ∃ R, R = r * 1000000000 + x := ⟨_, rfl⟩
    obtain ⟨Q, hQ⟩ : ∃ Q, Q = quoD (digs A) B i := ⟨_, rfl⟩
    have hRc : (R : Int) = (r : Int) * 1000000000 + x := by omega
    have hQd : Q = (R : Int) / B := by rw [hQ, quoD, er, eA, hRc]
    have hrn : remD (digs A) B i = (R : Int) % B := by rw [remD_step (digs A) B i (by omega), er, eA, hRc]
    have dQ := quoD_dig dA hb i
    rw [← hQ] at dQ
    unfold digt at dQ
    have q0 := dQ.1
    have hdm := Int.emod_add_mul_ediv (R : Int) B
    rw [← hQd, ← hrn] at hdm
    have n0 : 0 ≤ remD (digs A) B i := Int.emod_nonneg _ (by omega)
    have n1 : remD (digs A) B i < B := Int.emod_lt_of_pos _ hb
    have hmq : (B : Int) * (Q + 1) = B * Q + B := by rw [Int.mul_add, Int.mul_one]
    have lR : (digs R).length ≤ (digs B).length + 1 := by
      have h1 : ((R : Int)).natAbs ≤ ((B : Int) * 1000000000).natAbs := by omega
      have h2 := bl_mono h1
      have h3 := bl_mul (B : Int) 1000000000
      have h4 : bl (1000000000 : Int) ≤ 2 := bl_le (by simp [pw])
      rw [bl_nat] at h2 h3
      have h5 : (R : Int) < pw ((digs B).length + 1) := by
        have g1 := digs_lt B
        have g2 := pw_pos (digs B).length
        simp only [pw]
        omega
      exact digs_len_le h5
    have look : ∀ mid : Int, 0 ≤ mid → mid < 1000000000 → Fn Try.prog 86 [ints (digs B), I mid] (ints (digs ((B : Int) * mid).toNat)) ∧ Fn Try.prog 85 [ints (digs ((B : Int) * mid).toNat), ints (digs R)] (I ((B : Int) * mid - R).sign) := by
      intro mid g0 g1
      have c1 := times_fn (digs B) mid (digs_canon B) ⟨g0, g1⟩ (by omega)
      rw [vB] at c1
      have m0 : 0 ≤ (B : Int) * mid := Int.mul_nonneg (by omega) g0
      have m1 : (digs ((B : Int) * mid).toNat).length ≤ (digs B).length + 3 := by
        have h2 := bl_mul (B : Int) mid
        have h3 : bl mid ≤ 3 := bl_i64 ⟨by omega, by omega⟩
        have h4 : bl ((B : Int) * mid) = (digs ((B : Int) * mid).toNat).length := by show (digs ((B : Int) * mid).natAbs).length = _; rw [show ((B : Int) * mid).natAbs = ((B : Int) * mid).toNat by omega]
        rw [bl_nat] at h2; omega
      have c2 := compared_fn (digs ((B : Int) * mid).toNat) (digs R) (digs_canon _) (digs_canon _) (by omega)
      rw [digs_val, digs_val, Int.toNat_of_nonneg m0] at c2
      exact ⟨c1, c2⟩
    obtain ⟨T, hT⟩ : ∃ T : Nat, (T : Int) = B * Q := ⟨((B : Int) * Q).toNat, Int.toNat_of_nonneg (Int.mul_nonneg (by omega) q0)⟩
    have hTR : T ≤ R := by omega
    have lT : (digs T).length ≤ (digs R).length := by
      have := bl_mono (y := (T : Int)) (z := (R : Int)) (by omega)
      rw [bl_nat, bl_nat] at this; exact this
    have cm := rminus_fn (digs R) (digs T) (digs_dig _) (digs_dig _) (by omega) lT (by rw [digs_val, digs_val]; omega)
    have vm := minusF_val (digs_dig R) (digs_dig T) lT (by rw [digs_val, digs_val]; omega)
    rw [digs_val, digs_val] at vm
    have cn := normal_z false (minusF (digs R) (digs T)) (minusF_dig (digs_dig _) (digs_dig _)) (by unfold minusF; rw [tab_len]; omega)
    obtain ⟨r', hr'⟩ : ∃ r' : Nat, (r' : Int) = remD (digs A) B i := ⟨(remD (digs A) B i).toNat, by omega⟩
    rw [vm, show sgn false ((R : Int) - T) = (r' : Int) by unfold sgn; simp; omega, zA_nat] at cn
    have eT : ((B : Int) * Q).toNat = T := by omega
    have hrn' : (remD (digs A) B i).toNat = r' := by omega
    rw [← eT] at cm cn
    have hU : upd (slF I 0 (quoM (digs A) B (i + 1))) i (.int .i64 Q) = slF I 0 (quoM (digs A) B i) := by
      rw [upd_I _ _ _ (by rw [quoM_len]; omega), quoM_set (digs A) B i (by omega) hQ]
    have e1 : ((i + 1 : Nat) : Int) - 1 = (i : Int) := by omega
    have w1 : IntKind.i64.wrap ((i : Int) - 1) = (i : Int) - 1 := by rw [IntKind.wrap_i64]; omega
    have f3 : (i < (digs A).length) = True := eq_true (by omega)
    have f3' : (i + 1 ≤ (digs A).length) = True := eq_true (by omega)
    have e0 : ((0 : Int) ≤ (i : Int)) = True := eq_true (by omega)
    have cc0 := compared_fn (digs R) (digs B) (digs_canon _) (digs_canon _) (by omega)
    rw [digs_val, vB] at cc0
    by_cases hrz : r = 0
    · -- no rest yet
      have hrz' : (remD (digs A) B (i + 1)).toNat = 0 := by omega
      have hRx : R = x := by omega
      have cn1 := normal_z false [(x : Int)] (dig_cons.2 ⟨⟨by omega, by omega⟩, dig_nil⟩) (by simp)
      rw [show sgn false (val [(x : Int)]) = (R : Int) by unfold sgn; simp [val]; omega, zA_nat] at cn1
      refine vc_soundN 1000 ?_
      simp (config := { maxSteps := 2000000 }) only [divSt, e1, e0, eA, f3, hrz', digs_zero, Int.toNat_natCast, ↓wPre, wPost, wFast, wCore, beq_self_eq_true, ite_true, ite_false, false_implies, true_implies, implies_true, eq_self, ne_eq, ↓reduceIte, reduceIte, Nat.reducePow, Nat.reduceLT, Nat.reduceLeDiff, Nat.reduceEqDiff, Nat.reduceAdd, Nat.reduceMul, Nat.reduceSub, Nat.reduceBEq, Nat.reduceDiv, Nat.reduceMod, reduceCtorEq, sl1, wFacts, zA, qA, qC, nb_tf, nb_ft, nb_tt, nb_ff]
      refine call_weak cn1 ⟨Weak.rfl' _, weak_litE rfl rfl, trivial⟩ ?_
      simp (config := { maxSteps := 2000000 }) only [↓wPre, wPost, wFast, wCore, beq_self_eq_true, ite_true, ite_false, false_implies, true_implies, implies_true, eq_self, ne_eq, ↓reduceIte, reduceIte, Nat.reducePow, Nat.reduceLT, Nat.reduceLeDiff, Nat.reduceEqDiff, Nat.reduceAdd, Nat.reduceMul, Nat.reduceSub, Nat.reduceBEq, Nat.reduceDiv, Nat.reduceMod, reduceCtorEq, sl1, wFacts, zA, qA, qC, nb_tf, nb_ft, nb_tt, nb_ff]
      refine call_fn cc0 rfl ?_
      by_cases hlt : ((R : Int) - B).sign < 0
      · have g1 : (((R : Int) - B).sign < 0) = True := eq_true hlt
        have hQ0 : Q = 0 := by
          have := Int.sign_neg_iff.1 hlt
          rw [hQd]; exact Int.ediv_eq_zero_of_lt (by omega) (by omega)
        simp (config := { maxSteps := 2000000 }) only [g1, ↓wPre, wPost, wFast, wCore, beq_self_eq_true, ite_true, ite_false, false_implies, true_implies, implies_true, eq_self, ne_eq, ↓reduceIte, reduceIte, Nat.reducePow, Nat.reduceLT, Nat.reduceLeDiff, Nat.reduceEqDiff, Nat.reduceAdd, Nat.reduceMul, Nat.reduceSub, Nat.reduceBEq, Nat.reduceDiv, Nat.reduceMod, reduceCtorEq, sl1, wFacts, zA, qA, qC, nb_tf, nb_ft, nb_tt, nb_ff]
        refine run_loop (divSt2 (digs A) (digs B) B i R) (fun p => 0 ≤ p.1 ∧ p.1 ≤ Q ∧ Q ≤ p.2 ∧ p.2 < 1000000000) (fun p => (p.2 - p.1).toNat) (0, 0) ⟨Int.le_refl 0, q0, by simp only; omega, by simp only; omega⟩ ?_ ?_
        · exact (sub_cut (m := 1) (Nat.zero_le _) rfl (by simp [zA, qA, qC, nb_tf, nb_ft, nb_tt, nb_ff, divSt2, subL, ints, sl1, I]) (by simp [zA, qA, qC, nb_tf, nb_ft, nb_tt, nb_ff, divSt2, subT]) (by simp [zA, qA, qC, nb_tf, nb_ft, nb_tt, nb_ff, divSt2, ints, sl1, I]) (by simp [zA, qA, qC, nb_tf, nb_ft, nb_tt, nb_ff, divSt2, wBel]) (by simp [zA, qA, qC, nb_tf, nb_ft, nb_tt, nb_ff, divSt2, wBel]) (by simp [zA, qA, qC, nb_tf, nb_ft, nb_tt, nb_ff, divSt2, wBel]))
        rintro ⟨lo, hi⟩ ⟨h1, h2, h3, h4⟩ next2
        simp only at h1 h2 h3 h4
        by_cases hlh : lo < hi
        · obtain ⟨mid, hmid⟩ : ∃ mid, mid = (lo + hi + 1) / 2 := ⟨_, rfl⟩
          have k1 : IntKind.i64.wrap (lo + hi) = lo + hi := by rw [IntKind.wrap_i64]; omega
          have k2 : IntKind.i64.wrap (lo + hi + 1) = lo + hi + 1 := by rw [IntKind.wrap_i64]; omega
          have k3 : IntKind.i64.wrap ((lo + hi + 1).tdiv 2) = mid := by rw [Int.tdiv_eq_ediv_of_nonneg (by omega), ← hmid, IntKind.wrap_i64]; omega
          have k4 : IntKind.i64.wrap (mid - 1) = mid - 1 := by rw [IntKind.wrap_i64]; omega
          have j1 : (lo < hi) = True := eq_true hlh
          obtain ⟨ct, cc⟩ := look mid (by omega) (by omega)
          by_cases hm : (B : Int) * mid ≤ R
          · have j2 : (((B : Int) * mid - R).sign ≤ 0) = True := eq_true (by
              rcases Int.lt_or_eq_of_le hm with h | h
              · rw [Int.sign_eq_neg_one_of_neg (by omega)]; omega
              · rw [h, Int.sub_self]; simp)
            have hq : mid ≤ Q := by
              apply Classical.byContradiction
              intro hh
              have : (B : Int) * (Q + 1) ≤ B * mid := Int.mul_le_mul_of_nonneg_left (by omega) (by omega)
              omega
            refine vc_soundN 1000 ?_
            simp (config := { maxSteps := 2000000 }) only [divSt2, j1, k1, k2, k3, Int.reduceEq, ↓wPre, wPost, wFast, wCore, beq_self_eq_true, ite_true, ite_false, false_implies, true_implies, implies_true, eq_self, ne_eq, ↓reduceIte, reduceIte, Nat.reducePow, Nat.reduceLT, Nat.reduceLeDiff, Nat.reduceEqDiff, Nat.reduceAdd, Nat.reduceMul, Nat.reduceSub, Nat.reduceBEq, Nat.reduceDiv, Nat.reduceMod, reduceCtorEq, sl1, wFacts, zA, qA, qC, nb_tf, nb_ft, nb_tt, nb_ff]
            refine call_fn ct rfl ?_
            simp (config := { maxSteps := 2000000 }) only [k1, k2, k3, ↓wPre, wPost, wFast, wCore, beq_self_eq_true, ite_true, ite_false, false_implies, true_implies, implies_true, eq_self, ne_eq, ↓reduceIte, reduceIte, Nat.reducePow, Nat.reduceLT, Nat.reduceLeDiff, Nat.reduceEqDiff, Nat.reduceAdd, Nat.reduceMul, Nat.reduceSub, Nat.reduceBEq, Nat.reduceDiv, Nat.reduceMod, reduceCtorEq, sl1, wFacts, zA, qA, qC, nb_tf, nb_ft, nb_tt, nb_ff]
            refine call_fn cc rfl ?_
            simp (config := { maxSteps := 2000000 }) only [j2, ↓wPre, wPost, wFast, wCore, beq_self_eq_true, ite_true, ite_false, false_implies, true_implies, implies_true, eq_self, ne_eq, ↓reduceIte, reduceIte, Nat.reducePow, Nat.reduceLT, Nat.reduceLeDiff, Nat.reduceEqDiff, Nat.reduceAdd, Nat.reduceMul, Nat.reduceSub, Nat.reduceBEq, Nat.reduceDiv, Nat.reduceMod, reduceCtorEq, sl1, wFacts, zA, qA, qC, nb_tf, nb_ft, nb_tt, nb_ff]
            exact next2 (mid, hi) _ ⟨by simp only; omega, hq, h3, h4⟩ (by simp only; omega) (sub_mk rfl (by simp [divSt2, subL, ints, sl1, I]) (by simp [divSt2, subT]) rfl)
          · have j2 : (((B : Int) * mid - R).sign ≤ 0) = False := eq_false (by
              rw [Int.sign_eq_one_of_pos (by omega)]; omega)
            have hq : Q ≤ mid - 1 := by
              apply Classical.byContradiction
              intro hh
              have : (B : Int) * mid ≤ B * Q := Int.mul_le_mul_of_nonneg_left (by omega) (by omega)
              omega
            refine vc_soundN 1000 ?_
            simp (config := { maxSteps := 2000000 }) only [divSt2, j1, k1, k2, k3, Int.reduceEq, ↓wPre, wPost, wFast, wCore, beq_self_eq_true, ite_true, ite_false, false_implies, true_implies, implies_true, eq_self, ne_eq, ↓reduceIte, reduceIte, Nat.reducePow, Nat.reduceLT, Nat.reduceLeDiff, Nat.reduceEqDiff, Nat.reduceAdd, Nat.reduceMul, Nat.reduceSub, Nat.reduceBEq, Nat.reduceDiv, Nat.reduceMod, reduceCtorEq, sl1, wFacts, zA, qA, qC, nb_tf, nb_ft, nb_tt, nb_ff]
            refine call_fn ct rfl ?_
            simp (config := { maxSteps := 2000000 }) only [k1, k2, k3, ↓wPre, wPost, wFast, wCore, beq_self_eq_true, ite_true, ite_false, false_implies, true_implies, implies_true, eq_self, ne_eq, ↓reduceIte, reduceIte, Nat.reducePow, Nat.reduceLT, Nat.reduceLeDiff, Nat.reduceEqDiff, Nat.reduceAdd, Nat.reduceMul, Nat.reduceSub, Nat.reduceBEq, Nat.reduceDiv, Nat.reduceMod, reduceCtorEq, sl1, wFacts, zA, qA, qC, nb_tf, nb_ft, nb_tt, nb_ff]
            refine call_fn cc rfl ?_
            simp (config := { maxSteps := 2000000 }) only [j2, k4, ↓wPre, wPost, wFast, wCore, beq_self_eq_true, ite_true, ite_false, false_implies, true_implies, implies_true, eq_self, ne_eq, ↓reduceIte, reduceIte, Nat.reducePow, Nat.reduceLT, Nat.reduceLeDiff, Nat.reduceEqDiff, Nat.reduceAdd, Nat.reduceMul, Nat.reduceSub, Nat.reduceBEq, Nat.reduceDiv, Nat.reduceMod, reduceCtorEq, sl1, wFacts, zA, qA, qC, nb_tf, nb_ft, nb_tt, nb_ff]
            exact next2 (lo, mid - 1) _ ⟨h1, h2, hq, by simp only; omega⟩ (by simp only; omega) (sub_mk rfl (by simp [divSt2, subL, ints, sl1, I]) (by simp [divSt2, subT]) rfl)
        · obtain rfl : lo = Q := by omega
          have j1 : (lo < hi) = False := eq_false hlh
          obtain ⟨ct, _⟩ := look lo (by omega) (by omega)
          refine vc_soundN 1000 ?_
          simp (config := { maxSteps := 2000000 }) only [divSt2, j1, ↓wPre, wPost, wFast, wCore, beq_self_eq_true, ite_true, ite_false, false_implies, true_implies, implies_true, eq_self, ne_eq, ↓reduceIte, reduceIte, Nat.reducePow, Nat.reduceLT, Nat.reduceLeDiff, Nat.reduceEqDiff, Nat.reduceAdd, Nat.reduceMul, Nat.reduceSub, Nat.reduceBEq, Nat.reduceDiv, Nat.reduceMod, reduceCtorEq, sl1, wFacts, zA, qA, qC, nb_tf, nb_ft, nb_tt, nb_ff]
          refine call_fn ct rfl ?_
          simp (config := { maxSteps := 2000000 }) only [↓wPre, wPost, wFast, wCore, beq_self_eq_true, ite_true, ite_false, false_implies, true_implies, implies_true, eq_self, ne_eq, ↓reduceIte, reduceIte, Nat.reducePow, Nat.reduceLT, Nat.reduceLeDiff, Nat.reduceEqDiff, Nat.reduceAdd, Nat.reduceMul, Nat.reduceSub, Nat.reduceBEq, Nat.reduceDiv, Nat.reduceMod, reduceCtorEq, sl1, wFacts, zA, qA, qC, nb_tf, nb_ft, nb_tt, nb_ff]
          refine call_fn cm rfl ?_
          simp (config := { maxSteps := 2000000 }) only [↓wPre, wPost, wFast, wCore, beq_self_eq_true, ite_true, ite_false, false_implies, true_implies, implies_true, eq_self, ne_eq, ↓reduceIte, reduceIte, Nat.reducePow, Nat.reduceLT, Nat.reduceLeDiff, Nat.reduceEqDiff, Nat.reduceAdd, Nat.reduceMul, Nat.reduceSub, Nat.reduceBEq, Nat.reduceDiv, Nat.reduceMod, reduceCtorEq, sl1, wFacts, zA, qA, qC, nb_tf, nb_ft, nb_tt, nb_ff]
          refine call_fn cn rfl ?_
          simp (config := { maxSteps := 2000000 }) only [f3, f3', hU, w1, Int.toNat_natCast, ↓wPre, wPost, wFast, wCore, beq_self_eq_true, ite_true, ite_false, false_implies, true_implies, implies_true, eq_self, ne_eq, ↓reduceIte, reduceIte, Nat.reducePow, Nat.reduceLT, Nat.reduceLeDiff, Nat.reduceEqDiff, Nat.reduceAdd, Nat.reduceMul, Nat.reduceSub, Nat.reduceBEq, Nat.reduceDiv, Nat.reduceMod, reduceCtorEq, sl1, wFacts, zA, qA, qC, nb_tf, nb_ft, nb_tt, nb_ff]
          exact next i _ (by omega) (by omega) (sub_cut (m := 1) (Nat.zero_le _) rfl (by simp [zA, qA, qC, nb_tf, nb_ft, nb_tt, nb_ff, divSt, hrn', subL, ints, sl1, I]) (by simp [zA, qA, qC, nb_tf, nb_ft, nb_tt, nb_ff, divSt, hrn', subT]) (by simp [zA, qA, qC, nb_tf, nb_ft, nb_tt, nb_ff, divSt, hrn', ints, sl1, I]) (by simp [zA, qA, qC, nb_tf, nb_ft, nb_tt, nb_ff, divSt, hrn', wBel]) (by simp [zA, qA, qC, nb_tf, nb_ft, nb_tt, nb_ff, divSt, hrn', wBel]) (by simp [zA, qA, qC, nb_tf, nb_ft, nb_tt, nb_ff, divSt, hrn', wBel]))
      · have g1 : (((R : Int) - B).sign < 0) = False := eq_false hlt
        simp (config := { maxSteps := 2000000 }) only [g1, ↓wPre, wPost, wFast, wCore, beq_self_eq_true, ite_true, ite_false, false_implies, true_implies, implies_true, eq_self, ne_eq, ↓reduceIte, reduceIte, Nat.reducePow, Nat.reduceLT, Nat.reduceLeDiff, Nat.reduceEqDiff, Nat.reduceAdd, Nat.reduceMul, Nat.reduceSub, Nat.reduceBEq, Nat.reduceDiv, Nat.reduceMod, reduceCtorEq, sl1, wFacts, zA, qA, qC, nb_tf, nb_ft, nb_tt, nb_ff]
        refine run_loop (divSt2 (digs A) (digs B) B i R) (fun p => 0 ≤ p.1 ∧ p.1 ≤ Q ∧ Q ≤ p.2 ∧ p.2 < 1000000000) (fun p => (p.2 - p.1).toNat) (0, 999999999) ⟨Int.le_refl 0, q0, by simp only; omega, by simp only; omega⟩ ?_ ?_
        · exact (sub_cut (m := 1) (Nat.zero_le _) rfl (by simp [zA, qA, qC, nb_tf, nb_ft, nb_tt, nb_ff, divSt2, subL, ints, sl1, I]) (by simp [zA, qA, qC, nb_tf, nb_ft, nb_tt, nb_ff, divSt2, subT]) (by simp [zA, qA, qC, nb_tf, nb_ft, nb_tt, nb_ff, divSt2, ints, sl1, I]) (by simp [zA, qA, qC, nb_tf, nb_ft, nb_tt, nb_ff, divSt2, wBel]) (by simp [zA, qA, qC, nb_tf, nb_ft, nb_tt, nb_ff, divSt2, wBel]) (by simp [zA, qA, qC, nb_tf, nb_ft, nb_tt, nb_ff, divSt2, wBel]))
        rintro ⟨lo, hi⟩ ⟨h1, h2, h3, h4⟩ next2
        simp only at h1 h2 h3 h4
        by_cases hlh : lo < hi
        · obtain ⟨mid, hmid⟩ : ∃ mid, mid = (lo + hi + 1) / 2 := ⟨_, rfl⟩
          have k1 : IntKind.i64.wrap (lo + hi) = lo + hi := by rw [IntKind.wrap_i64]; omega
          have k2 : IntKind.i64.wrap (lo + hi + 1) = lo + hi + 1 := by rw [IntKind.wrap_i64]; omega
          have k3 : IntKind.i64.wrap ((lo + hi + 1).tdiv 2) = mid := by rw [Int.tdiv_eq_ediv_of_nonneg (by omega), ← hmid, IntKind.wrap_i64]; omega
          have k4 : IntKind.i64.wrap (mid - 1) = mid - 1 := by rw [IntKind.wrap_i64]; omega
          have j1 : (lo < hi) = True := eq_true hlh
          obtain ⟨ct, cc⟩ := look mid (by omega) (by omega)
          by_cases hm : (B : Int) * mid ≤ R
          · have j2 : (((B : Int) * mid - R).sign ≤ 0) = True := eq_true (by
              rcases Int.lt_or_eq_of_le hm with h | h
              · rw [Int.sign_eq_neg_one_of_neg (by omega)]; omega
              · rw [h, Int.sub_self]; simp)
            have hq : mid ≤ Q := by
              apply Classical.byContradiction
              intro hh
              have : (B : Int) * (Q + 1) ≤ B * mid := Int.mul_le_mul_of_nonneg_left (by omega) (by omega)
              omega
            refine vc_soundN 1000 ?_
            simp (config := { maxSteps := 2000000 }) only [divSt2, j1, k1, k2, k3, Int.reduceEq, ↓wPre, wPost, wFast, wCore, beq_self_eq_true, ite_true, ite_false, false_implies, true_implies, implies_true, eq_self, ne_eq, ↓reduceIte, reduceIte, Nat.reducePow, Nat.reduceLT, Nat.reduceLeDiff, Nat.reduceEqDiff, Nat.reduceAdd, Nat.reduceMul, Nat.reduceSub, Nat.reduceBEq, Nat.reduceDiv, Nat.reduceMod, reduceCtorEq, sl1, wFacts, zA, qA, qC, nb_tf, nb_ft, nb_tt, nb_ff]
            refine call_fn ct rfl ?_
            simp (config := { maxSteps := 2000000 }) only [k1, k2, k3, ↓wPre, wPost, wFast, wCore, beq_self_eq_true, ite_true, ite_false, false_implies, true_implies, implies_true, eq_self, ne_eq, ↓reduceIte, reduceIte, Nat.reducePow, Nat.reduceLT, Nat.reduceLeDiff, Nat.reduceEqDiff, Nat.reduceAdd, Nat.reduceMul, Nat.reduceSub, Nat.reduceBEq, Nat.reduceDiv, Nat.reduceMod, reduceCtorEq, sl1, wFacts, zA, qA, qC, nb_tf, nb_ft, nb_tt, nb_ff]
            refine call_fn cc rfl ?_
            simp (config := { maxSteps := 2000000 }) only [j2, ↓wPre, wPost, wFast, wCore, beq_self_eq_true, ite_true, ite_false, false_implies, true_implies, implies_true, eq_self, ne_eq, ↓reduceIte, reduceIte, Nat.reducePow, Nat.reduceLT, Nat.reduceLeDiff, Nat.reduceEqDiff, Nat.reduceAdd, Nat.reduceMul, Nat.reduceSub, Nat.reduceBEq, Nat.reduceDiv, Nat.reduceMod, reduceCtorEq, sl1, wFacts, zA, qA, qC, nb_tf, nb_ft, nb_tt, nb_ff]
            exact next2 (mid, hi) _ ⟨by simp only; omega, hq, h3, h4⟩ (by simp only; omega) (sub_mk rfl (by simp [divSt2, subL, ints, sl1, I]) (by simp [divSt2, subT]) rfl)
          · have j2 : (((B : Int) * mid - R).sign ≤ 0) = False := eq_false (by
              rw [Int.sign_eq_one_of_pos (by omega)]; omega)
            have hq : Q ≤ mid - 1 := by
              apply Classical.byContradiction
              intro hh
              have : (B : Int) * mid ≤ B * Q := Int.mul_le_mul_of_nonneg_left (by omega) (by omega)
              omega
            refine vc_soundN 1000 ?_
            simp (config := { maxSteps := 2000000 }) only [divSt2, j1, k1, k2, k3, Int.reduceEq, ↓wPre, wPost, wFast, wCore, beq_self_eq_true, ite_true, ite_false, false_implies, true_implies, implies_true, eq_self, ne_eq, ↓reduceIte, reduceIte, Nat.reducePow, Nat.reduceLT, Nat.reduceLeDiff, Nat.reduceEqDiff, Nat.reduceAdd, Nat.reduceMul, Nat.reduceSub, Nat.reduceBEq, Nat.reduceDiv, Nat.reduceMod, reduceCtorEq, sl1, wFacts, zA, qA, qC, nb_tf, nb_ft, nb_tt, nb_ff]
            refine call_fn ct rfl ?_
            simp (config := { maxSteps := 2000000 }) only [k1, k2, k3, ↓wPre, wPost, wFast, wCore, beq_self_eq_true, ite_true, ite_false, false_implies, true_implies, implies_true, eq_self, ne_eq, ↓reduceIte, reduceIte, Nat.reducePow, Nat.reduceLT, Nat.reduceLeDiff, Nat.reduceEqDiff, Nat.reduceAdd, Nat.reduceMul, Nat.reduceSub, Nat.reduceBEq, Nat.reduceDiv, Nat.reduceMod, reduceCtorEq, sl1, wFacts, zA, qA, qC, nb_tf, nb_ft, nb_tt, nb_ff]
            refine call_fn cc rfl ?_
            simp (config := { maxSteps := 2000000 }) only [j2, k4, ↓wPre, wPost, wFast, wCore, beq_self_eq_true, ite_true, ite_false, false_implies, true_implies, implies_true, eq_self, ne_eq, ↓reduceIte, reduceIte, Nat.reducePow, Nat.reduceLT, Nat.reduceLeDiff, Nat.reduceEqDiff, Nat.reduceAdd, Nat.reduceMul, Nat.reduceSub, Nat.reduceBEq, Nat.reduceDiv, Nat.reduceMod, reduceCtorEq, sl1, wFacts, zA, qA, qC, nb_tf, nb_ft, nb_tt, nb_ff]
            exact next2 (lo, mid - 1) _ ⟨h1, h2, hq, by simp only; omega⟩ (by simp only; omega) (sub_mk rfl (by simp [divSt2, subL, ints, sl1, I]) (by simp [divSt2, subT]) rfl)
        · obtain rfl : lo = Q := by omega
          have j1 : (lo < hi) = False := eq_false hlh
          obtain ⟨ct, _⟩ := look lo (by omega) (by omega)
          refine vc_soundN 1000 ?_
          simp (config := { maxSteps := 2000000 }) only [divSt2, j1, ↓wPre, wPost, wFast, wCore, beq_self_eq_true, ite_true, ite_false, false_implies, true_implies, implies_true, eq_self, ne_eq, ↓reduceIte, reduceIte, Nat.reducePow, Nat.reduceLT, Nat.reduceLeDiff, Nat.reduceEqDiff, Nat.reduceAdd, Nat.reduceMul, Nat.reduceSub, Nat.reduceBEq, Nat.reduceDiv, Nat.reduceMod, reduceCtorEq, sl1, wFacts, zA, qA, qC, nb_tf, nb_ft, nb_tt, nb_ff]
          refine call_fn ct rfl ?_
          simp (config := { maxSteps := 2000000 }) only [↓wPre, wPost, wFast, wCore, beq_self_eq_true, ite_true, ite_false, false_implies, true_implies, implies_true, eq_self, ne_eq, ↓reduceIte, reduceIte, Nat.reducePow, Nat.reduceLT, Nat.reduceLeDiff, Nat.reduceEqDiff, Nat.reduceAdd, Nat.reduceMul, Nat.reduceSub, Nat.reduceBEq, Nat.reduceDiv, Nat.reduceMod, reduceCtorEq, sl1, wFacts, zA, qA, qC, nb_tf, nb_ft, nb_tt, nb_ff]
          refine call_fn cm rfl ?_
          simp (config := { maxSteps := 2000000 }) only [↓wPre, wPost, wFast, wCore, beq_self_eq_true, ite_true, ite_false, false_implies, true_implies, implies_true, eq_self, ne_eq, ↓reduceIte, reduceIte, Nat.reducePow, Nat.reduceLT, Nat.reduceLeDiff, Nat.reduceEqDiff, Nat.reduceAdd, Nat.reduceMul, Nat.reduceSub, Nat.reduceBEq, Nat.reduceDiv, Nat.reduceMod, reduceCtorEq, sl1, wFacts, zA, qA, qC, nb_tf, nb_ft, nb_tt, nb_ff]
          refine call_fn cn rfl ?_
          simp (config := { maxSteps := 2000000 }) only [f3, f3', hU, w1, Int.toNat_natCast, ↓wPre, wPost, wFast, wCore, beq_self_eq_true, ite_true, ite_false, false_implies, true_implies, implies_true, eq_self, ne_eq, ↓reduceIte, reduceIte, Nat.reducePow, Nat.reduceLT, Nat.reduceLeDiff, Nat.reduceEqDiff, Nat.reduceAdd, Nat.reduceMul, Nat.reduceSub, Nat.reduceBEq, Nat.reduceDiv, Nat.reduceMod, reduceCtorEq, sl1, wFacts, zA, qA, qC, nb_tf, nb_ft, nb_tt, nb_ff]
          exact next i _ (by omega) (by omega) (sub_cut (m := 1) (Nat.zero_le _) rfl (by simp [zA, qA, qC, nb_tf, nb_ft, nb_tt, nb_ff, divSt, hrn', subL, ints, sl1, I]) (by simp [zA, qA, qC, nb_tf, nb_ft, nb_tt, nb_ff, divSt, hrn', subT]) (by simp [zA, qA, qC, nb_tf, nb_ft, nb_tt, nb_ff, divSt, hrn', ints, sl1, I]) (by simp [zA, qA, qC, nb_tf, nb_ft, nb_tt, nb_ff, divSt, hrn', wBel]) (by simp [zA, qA, qC, nb_tf, nb_ft, nb_tt, nb_ff, divSt, hrn', wBel]) (by simp [zA, qA, qC, nb_tf, nb_ft, nb_tt, nb_ff, divSt, hrn', wBel]))
    · -- the digit ahead of the rest
      obtain ⟨m, hm⟩ : ∃ m, m = (digs r).length := ⟨_, rfl⟩
      have hm0 : m ≠ 0 := fun h => hrz (digs_len_zero.1 (by omega))
      have dR : digs R = (x : Int) :: digs r := by
        rw [digs_pos (by omega), show R % 1000000000 = x by omega, show R / 1000000000 = r by omega]
      have hlR : 1 + m = (digs R).length := by rw [dR]; simp; omega
      have hfj : ∀ j, j < 1 + m → appF 1 (ofL [.int .i64 (x : Int)]) m (slF I 0 (digs r)) j = I ((digs R).getD j 0) := by
        intro j hj
        rw [dR]
        cases j with
        | zero => simp [appF, ofL, I]
        | succ j =>
          unfold appF
          rw [if_neg (by omega), if_pos hj, show j + 1 - 1 = j by omega, slF_at]
          rfl
      have hnz : (digs R).getD m 0 ≠ 0 := by
        have := (digs_canon R).2 (by rw [dR]; simp)
        rwa [← hlR, show 1 + m - 1 = m by omega] at this
      have hfl : appF 1 (ofL [.int .i64 (x : Int)]) m (slF I 0 (digs r)) (1 + m - 1) = .int .i64 ((digs R).getD m 0) := by
        rw [show 1 + m - 1 = m by omega, hfj m (by omega)]; rfl
      have cno := normal_own false (quoM (digs A) B (i + 1)) (digs A).length (1 + m) _ _ hfl hnz (by omega) (by omega) (fun j hj => by rw [hfj j hj]; exact bel_I _ _)
      have hw : ∀ H : List AO, H[1]? = some (.con 0 (1 + m) (appF 1 (ofL [.int .i64 (x : Int)]) m (slF I 0 (digs r)))) → WeakIn H (.osl 1 0 1 0 (1 + m)) (ints (digs R)) := by
        intro H ho
        show WeakIn H _ (.sl (digs R).length (digs R).length (slF I 0 (digs R)) false)
        rw [← hlR]
        exact weakIn_osl ho (Nat.le_refl _) (fun h => by omega) fun j hj => by rw [hfj j hj]; exact weakIn_rfl _ _
      have f5 : (m = 0) = False := eq_false hm0
      have hrz' : (remD (digs A) B (i + 1)).toNat = r := by omega
      refine vc_soundN 1000 ?_
      simp (config := { maxSteps := 2000000 }) only [divSt, e1, e0, eA, f3, hrz', ← hm, f5, Int.toNat_natCast, ↓wPre, wPost, wFast, wCore, beq_self_eq_true, ite_true, ite_false, false_implies, true_implies, implies_true, eq_self, ne_eq, ↓reduceIte, reduceIte, Nat.reducePow, Nat.reduceLT, Nat.reduceLeDiff, Nat.reduceEqDiff, Nat.reduceAdd, Nat.reduceMul, Nat.reduceSub, Nat.reduceBEq, Nat.reduceDiv, Nat.reduceMod, reduceCtorEq, sl1, wFacts, zA, qA, qC, nb_tf, nb_ft, nb_tt, nb_ff]
      refine ⟨⟨by omega, by omega, by omega⟩, call_heap rfl cno (fun _ _ _ _ => Iff.rfl) (fun id => ?_) ⟨Weak.rfl' _, Weak.rfl' _, trivial⟩ ?_⟩
      · match id with
        | 0 => simp
        | 1 => simp
        | id + 2 => simp
      simp (config := { maxSteps := 2000000 }) only [↓wPre, wPost, wFast, wCore, beq_self_eq_true, ite_true, ite_false, false_implies, true_implies, implies_true, eq_self, ne_eq, ↓reduceIte, reduceIte, Nat.reducePow, Nat.reduceLT, Nat.reduceLeDiff, Nat.reduceEqDiff, Nat.reduceAdd, Nat.reduceMul, Nat.reduceSub, Nat.reduceBEq, Nat.reduceDiv, Nat.reduceMod, reduceCtorEq, sl1, wFacts, zA, qA, qC, nb_tf, nb_ft, nb_tt, nb_ff]
      refine call_lent cc0 rfl ⟨sees_intsF rfl rfl hlR (by omega) (fun j hj => hfj j (by omega)), sees_of (settled_ints _) rfl, trivial⟩ (flat_int _ _) ?_
      by_cases hlt : ((R : Int) - B).sign < 0
      · have g1 : (((R : Int) - B).sign < 0) = True := eq_true hlt
        have hQ0 : Q = 0 := by
          have := Int.sign_neg_iff.1 hlt
          rw [hQd]; exact Int.ediv_eq_zero_of_lt (by omega) (by omega)
        simp (config := { maxSteps := 2000000 }) only [g1, ↓wPre, wPost, wFast, wCore, beq_self_eq_true, ite_true, ite_false, false_implies, true_implies, implies_true, eq_self, ne_eq, ↓reduceIte, reduceIte, Nat.reducePow, Nat.reduceLT, Nat.reduceLeDiff, Nat.reduceEqDiff, Nat.reduceAdd, Nat.reduceMul, Nat.reduceSub, Nat.reduceBEq, Nat.reduceDiv, Nat.reduceMod, reduceCtorEq, sl1, wFacts, zA, qA, qC, nb_tf, nb_ft, nb_tt, nb_ff]
        refine run_loop (divSt2 (digs A) (digs B) B i R) (fun p => 0 ≤ p.1 ∧ p.1 ≤ Q ∧ Q ≤ p.2 ∧ p.2 < 1000000000) (fun p => (p.2 - p.1).toNat) (0, 0) ⟨Int.le_refl 0, q0, by simp only; omega, by simp only; omega⟩ ?_ ?_
        · refine (sub_con 1 rfl).trans ((sub_weakIn 9 (ints (digs R)) (by simp) (hw _ rfl)).trans (sub_cut (m := 1) (Nat.zero_le _) rfl (by simp [zA, qA, qC, nb_tf, nb_ft, nb_tt, nb_ff, divSt2, subL, ints, sl1, I]) (by simp [zA, qA, qC, nb_tf, nb_ft, nb_tt, nb_ff, divSt2, subT]) (by simp [zA, qA, qC, nb_tf, nb_ft, nb_tt, nb_ff, divSt2, ints, sl1, I]) (by simp [zA, qA, qC, nb_tf, nb_ft, nb_tt, nb_ff, divSt2, wBel]) (by simp [zA, qA, qC, nb_tf, nb_ft, nb_tt, nb_ff, divSt2, wBel]) (by simp [zA, qA, qC, nb_tf, nb_ft, nb_tt, nb_ff, divSt2, wBel])))
        rintro ⟨lo, hi⟩ ⟨h1, h2, h3, h4⟩ next2
        simp only at h1 h2 h3 h4
        by_cases hlh : lo < hi
        · obtain ⟨mid, hmid⟩ : ∃ mid, mid = (lo + hi + 1) / 2 := ⟨_, rfl⟩
          have k1 : IntKind.i64.wrap (lo + hi) = lo + hi := by rw [IntKind.wrap_i64]; omega
          have k2 : IntKind.i64.wrap (lo + hi + 1) = lo + hi + 1 := by rw [IntKind.wrap_i64]; omega
          have k3 : IntKind.i64.wrap ((lo + hi + 1).tdiv 2) = mid := by rw [Int.tdiv_eq_ediv_of_nonneg (by omega), ← hmid, IntKind.wrap_i64]; omega
          have k4 : IntKind.i64.wrap (mid - 1) = mid - 1 := by rw [IntKind.wrap_i64]; omega
          have j1 : (lo < hi) = True := eq_true hlh
          obtain ⟨ct, cc⟩ := look mid (by omega) (by omega)
          by_cases hm : (B : Int) * mid ≤ R
          · have j2 : (((B : Int) * mid - R).sign ≤ 0) = True := eq_true (by
              rcases Int.lt_or_eq_of_le hm with h | h
              · rw [Int.sign_eq_neg_one_of_neg (by omega)]; omega
              · rw [h, Int.sub_self]; simp)
            have hq : mid ≤ Q := by
              apply Classical.byContradiction
              intro hh
              have : (B : Int) * (Q + 1) ≤ B * mid := Int.mul_le_mul_of_nonneg_left (by omega) (by omega)
              omega
            refine vc_soundN 1000 ?_
            simp (config := { maxSteps := 2000000 }) only [divSt2, j1, k1, k2, k3, Int.reduceEq, ↓wPre, wPost, wFast, wCore, beq_self_eq_true, ite_true, ite_false, false_implies, true_implies, implies_true, eq_self, ne_eq, ↓reduceIte, reduceIte, Nat.reducePow, Nat.reduceLT, Nat.reduceLeDiff, Nat.reduceEqDiff, Nat.reduceAdd, Nat.reduceMul, Nat.reduceSub, Nat.reduceBEq, Nat.reduceDiv, Nat.reduceMod, reduceCtorEq, sl1, wFacts, zA, qA, qC, nb_tf, nb_ft, nb_tt, nb_ff]
            refine call_fn ct rfl ?_
            simp (config := { maxSteps := 2000000 }) only [k1, k2, k3, ↓wPre, wPost, wFast, wCore, beq_self_eq_true, ite_true, ite_false, false_implies, true_implies, implies_true, eq_self, ne_eq, ↓reduceIte, reduceIte, Nat.reducePow, Nat.reduceLT, Nat.reduceLeDiff, Nat.reduceEqDiff, Nat.reduceAdd, Nat.reduceMul, Nat.reduceSub, Nat.reduceBEq, Nat.reduceDiv, Nat.reduceMod, reduceCtorEq, sl1, wFacts, zA, qA, qC, nb_tf, nb_ft, nb_tt, nb_ff]
            refine call_fn cc rfl ?_
            simp (config := { maxSteps := 2000000 }) only [j2, ↓wPre, wPost, wFast, wCore, beq_self_eq_true, ite_true, ite_false, false_implies, true_implies, implies_true, eq_self, ne_eq, ↓reduceIte, reduceIte, Nat.reducePow, Nat.reduceLT, Nat.reduceLeDiff, Nat.reduceEqDiff, Nat.reduceAdd, Nat.reduceMul, Nat.reduceSub, Nat.reduceBEq, Nat.reduceDiv, Nat.reduceMod, reduceCtorEq, sl1, wFacts, zA, qA, qC, nb_tf, nb_ft, nb_tt, nb_ff]
            exact next2 (mid, hi) _ ⟨by simp only; omega, hq, h3, h4⟩ (by simp only; omega) (sub_mk rfl (by simp [divSt2, subL, ints, sl1, I]) (by simp [divSt2, subT]) rfl)
          · have j2 : (((B : Int) * mid - R).sign ≤ 0) = False := eq_false (by
              rw [Int.sign_eq_one_of_pos (by omega)]; omega)
            have hq : Q ≤ mid - 1 := by
              apply Classical.byContradiction
              intro hh
              have : (B : Int) * mid ≤ B * Q := Int.mul_le_mul_of_nonneg_left (by omega) (by omega)
              omega
            refine vc_soundN 1000 ?_
            simp (config := { maxSteps := 2000000 }) only [divSt2, j1, k1, k2, k3, Int.reduceEq, ↓wPre, wPost, wFast, wCore, beq_self_eq_true, ite_true, ite_false, false_implies, true_implies, implies_true, eq_self, ne_eq, ↓reduceIte, reduceIte, Nat.reducePow, Nat.reduceLT, Nat.reduceLeDiff, Nat.reduceEqDiff, Nat.reduceAdd, Nat.reduceMul, Nat.reduceSub, Nat.reduceBEq, Nat.reduceDiv, Nat.reduceMod, reduceCtorEq, sl1, wFacts, zA, qA, qC, nb_tf, nb_ft, nb_tt, nb_ff]
            refine call_fn ct rfl ?_
            simp (config := { maxSteps := 2000000 }) only [k1, k2, k3, ↓wPre, wPost, wFast, wCore, beq_self_eq_true, ite_true, ite_false, false_implies, true_implies, implies_true, eq_self, ne_eq, ↓reduceIte, reduceIte, Nat.reducePow, Nat.reduceLT, Nat.reduceLeDiff, Nat.reduceEqDiff, Nat.reduceAdd, Nat.reduceMul, Nat.reduceSub, Nat.reduceBEq, Nat.reduceDiv, Nat.reduceMod, reduceCtorEq, sl1, wFacts, zA, qA, qC, nb_tf, nb_ft, nb_tt, nb_ff]
            refine call_fn cc rfl ?_
            simp (config := { maxSteps := 2000000 }) only [j2, k4, ↓wPre, wPost, wFast, wCore, beq_self_eq_true, ite_true, ite_false, false_implies, true_implies, implies_true, eq_self, ne_eq, ↓reduceIte, reduceIte, Nat.reducePow, Nat.reduceLT, Nat.reduceLeDiff, Nat.reduceEqDiff, Nat.reduceAdd, Nat.reduceMul, Nat.reduceSub, Nat.reduceBEq, Nat.reduceDiv, Nat.reduceMod, reduceCtorEq, sl1, wFacts, zA, qA, qC, nb_tf, nb_ft, nb_tt, nb_ff]
            exact next2 (lo, mid - 1) _ ⟨h1, h2, hq, by simp only; omega⟩ (by simp only; omega) (sub_mk rfl (by simp [divSt2, subL, ints, sl1, I]) (by simp [divSt2, subT]) rfl)
        · obtain rfl : lo = Q := by omega
          have j1 : (lo < hi) = False := eq_false hlh
          obtain ⟨ct, _⟩ := look lo (by omega) (by omega)
          refine vc_soundN 1000 ?_
          simp (config := { maxSteps := 2000000 }) only [divSt2, j1, ↓wPre, wPost, wFast, wCore, beq_self_eq_true, ite_true, ite_false, false_implies, true_implies, implies_true, eq_self, ne_eq, ↓reduceIte, reduceIte, Nat.reducePow, Nat.reduceLT, Nat.reduceLeDiff, Nat.reduceEqDiff, Nat.reduceAdd, Nat.reduceMul, Nat.reduceSub, Nat.reduceBEq, Nat.reduceDiv, Nat.reduceMod, reduceCtorEq, sl1, wFacts, zA, qA, qC, nb_tf, nb_ft, nb_tt, nb_ff]
          refine call_fn ct rfl ?_
          simp (config := { maxSteps := 2000000 }) only [↓wPre, wPost, wFast, wCore, beq_self_eq_true, ite_true, ite_false, false_implies, true_implies, implies_true, eq_self, ne_eq, ↓reduceIte, reduceIte, Nat.reducePow, Nat.reduceLT, Nat.reduceLeDiff, Nat.reduceEqDiff, Nat.reduceAdd, Nat.reduceMul, Nat.reduceSub, Nat.reduceBEq, Nat.reduceDiv, Nat.reduceMod, reduceCtorEq, sl1, wFacts, zA, qA, qC, nb_tf, nb_ft, nb_tt, nb_ff]
          refine call_fn cm rfl ?_
          simp (config := { maxSteps := 2000000 }) only [↓wPre, wPost, wFast, wCore, beq_self_eq_true, ite_true, ite_false, false_implies, true_implies, implies_true, eq_self, ne_eq, ↓reduceIte, reduceIte, Nat.reducePow, Nat.reduceLT, Nat.reduceLeDiff, Nat.reduceEqDiff, Nat.reduceAdd, Nat.reduceMul, Nat.reduceSub, Nat.reduceBEq, Nat.reduceDiv, Nat.reduceMod, reduceCtorEq, sl1, wFacts, zA, qA, qC, nb_tf, nb_ft, nb_tt, nb_ff]
          refine call_fn cn rfl ?_
          simp (config := { maxSteps := 2000000 }) only [f3, f3', hU, w1, Int.toNat_natCast, ↓wPre, wPost, wFast, wCore, beq_self_eq_true, ite_true, ite_false, false_implies, true_implies, implies_true, eq_self, ne_eq, ↓reduceIte, reduceIte, Nat.reducePow, Nat.reduceLT, Nat.reduceLeDiff, Nat.reduceEqDiff, Nat.reduceAdd, Nat.reduceMul, Nat.reduceSub, Nat.reduceBEq, Nat.reduceDiv, Nat.reduceMod, reduceCtorEq, sl1, wFacts, zA, qA, qC, nb_tf, nb_ft, nb_tt, nb_ff]
          exact next i _ (by omega) (by omega) (sub_cut (m := 1) (Nat.zero_le _) rfl (by simp [zA, qA, qC, nb_tf, nb_ft, nb_tt, nb_ff, divSt, hrn', subL, ints, sl1, I]) (by simp [zA, qA, qC, nb_tf, nb_ft, nb_tt, nb_ff, divSt, hrn', subT]) (by simp [zA, qA, qC, nb_tf, nb_ft, nb_tt, nb_ff, divSt, hrn', ints, sl1, I]) (by simp [zA, qA, qC, nb_tf, nb_ft, nb_tt, nb_ff, divSt, hrn', wBel]) (by simp [zA, qA, qC, nb_tf, nb_ft, nb_tt, nb_ff, divSt, hrn', wBel]) (by simp [zA, qA, qC, nb_tf, nb_ft, nb_tt, nb_ff, divSt, hrn', wBel]))
      · have g1 : (((R : Int) - B).sign < 0) = False := eq_false hlt
        simp (config := { maxSteps := 2000000 }) only [g1, ↓wPre, wPost, wFast, wCore, beq_self_eq_true, ite_true, ite_false, false_implies, true_implies, implies_true, eq_self, ne_eq, ↓reduceIte, reduceIte, Nat.reducePow, Nat.reduceLT, Nat.reduceLeDiff, Nat.reduceEqDiff, Nat.reduceAdd, Nat.reduceMul, Nat.reduceSub, Nat.reduceBEq, Nat.reduceDiv, Nat.reduceMod, reduceCtorEq, sl1, wFacts, zA, qA, qC, nb_tf, nb_ft, nb_tt, nb_ff]
        refine run_loop (divSt2 (digs A) (digs B) B i R) (fun p => 0 ≤ p.1 ∧ p.1 ≤ Q ∧ Q ≤ p.2 ∧ p.2 < 1000000000) (fun p => (p.2 - p.1).toNat) (0, 999999999) ⟨Int.le_refl 0, q0, by simp only; omega, by simp only; omega⟩ ?_ ?_
        · refine (sub_con 1 rfl).trans ((sub_weakIn 9 (ints (digs R)) (by simp) (hw _ rfl)).trans (sub_cut (m := 1) (Nat.zero_le _) rfl (by simp [zA, qA, qC, nb_tf, nb_ft, nb_tt, nb_ff, divSt2, subL, ints, sl1, I]) (by simp [zA, qA, qC, nb_tf, nb_ft, nb_tt, nb_ff, divSt2, subT]) (by simp [zA, qA, qC, nb_tf, nb_ft, nb_tt, nb_ff, divSt2, ints, sl1, I]) (by simp [zA, qA, qC, nb_tf, nb_ft, nb_tt, nb_ff, divSt2, wBel]) (by simp [zA, qA, qC, nb_tf, nb_ft, nb_tt, nb_ff, divSt2, wBel]) (by simp [zA, qA, qC, nb_tf, nb_ft, nb_tt, nb_ff, divSt2, wBel])))
        rintro ⟨lo, hi⟩ ⟨h1, h2, h3, h4⟩ next2
        simp only at h1 h2 h3 h4
        by_cases hlh : lo < hi
        · obtain ⟨mid, hmid⟩ : ∃ mid, mid = (lo + hi + 1) / 2 := ⟨_, rfl⟩
          have k1 : IntKind.i64.wrap (lo + hi) = lo + hi := by rw [IntKind.wrap_i64]; omega
          have k2 : IntKind.i64.wrap (lo + hi + 1) = lo + hi + 1 := by rw [IntKind.wrap_i64]; omega
          have k3 : IntKind.i64.wrap ((lo + hi + 1).tdiv 2) = mid := by rw [Int.tdiv_eq_ediv_of_nonneg (by omega), ← hmid, IntKind.wrap_i64]; omega
          have k4 : IntKind.i64.wrap (mid - 1) = mid - 1 := by rw [IntKind.wrap_i64]; omega
          have j1 : (lo < hi) = True := eq_true hlh
          obtain ⟨ct, cc⟩ := look mid (by omega) (by omega)
          by_cases hm : (B : Int) * mid ≤ R
          · have j2 : (((B : Int) * mid - R).sign ≤ 0) = True := eq_true (by
              rcases Int.lt_or_eq_of_le hm with h | h
              · rw [Int.sign_eq_neg_one_of_neg (by omega)]; omega
              · rw [h, Int.sub_self]; simp)
            have hq : mid ≤ Q := by
              apply Classical.byContradiction
              intro hh
              have : (B : Int) * (Q + 1) ≤ B * mid := Int.mul_le_mul_of_nonneg_left (by omega) (by omega)
              omega
            refine vc_soundN 1000 ?_
            simp (config := { maxSteps := 2000000 }) only [divSt2, j1, k1, k2, k3, Int.reduceEq, ↓wPre, wPost, wFast, wCore, beq_self_eq_true, ite_true, ite_false, false_implies, true_implies, implies_true, eq_self, ne_eq, ↓reduceIte, reduceIte, Nat.reducePow, Nat.reduceLT, Nat.reduceLeDiff, Nat.reduceEqDiff, Nat.reduceAdd, Nat.reduceMul, Nat.reduceSub, Nat.reduceBEq, Nat.reduceDiv, Nat.reduceMod, reduceCtorEq, sl1, wFacts, zA, qA, qC, nb_tf, nb_ft, nb_tt, nb_ff]
            refine call_fn ct rfl ?_
            simp (config := { maxSteps := 2000000 }) only [k1, k2, k3, ↓wPre, wPost, wFast, wCore, beq_self_eq_true, ite_true, ite_false, false_implies, true_implies, implies_true, eq_self, ne_eq, ↓reduceIte, reduceIte, Nat.reducePow, Nat.reduceLT, Nat.reduceLeDiff, Nat.reduceEqDiff, Nat.reduceAdd, Nat.reduceMul, Nat.reduceSub, Nat.reduceBEq, Nat.reduceDiv, Nat.reduceMod, reduceCtorEq, sl1, wFacts, zA, qA, qC, nb_tf, nb_ft, nb_tt, nb_ff]
            refine call_fn cc rfl ?_
            simp (config := { maxSteps := 2000000 }) only [j2, ↓wPre, wPost, wFast, wCore, beq_self_eq_true, ite_true, ite_false, false_implies, true_implies, implies_true, eq_self, ne_eq, ↓reduceIte, reduceIte, Nat.reducePow, Nat.reduceLT, Nat.reduceLeDiff, Nat.reduceEqDiff, Nat.reduceAdd, Nat.reduceMul, Nat.reduceSub, Nat.reduceBEq, Nat.reduceDiv, Nat.reduceMod, reduceCtorEq, sl1, wFacts, zA, qA, qC, nb_tf, nb_ft, nb_tt, nb_ff]
            exact next2 (mid, hi) _ ⟨by simp only; omega, hq, h3, h4⟩ (by simp only; omega) (sub_mk rfl (by simp [divSt2, subL, ints, sl1, I]) (by simp [divSt2, subT]) rfl)
          · have j2 : (((B : Int) * mid - R).sign ≤ 0) = False := eq_false (by
              rw [Int.sign_eq_one_of_pos (by omega)]; omega)
            have hq : Q ≤ mid - 1 := by
              apply Classical.byContradiction
              intro hh
              have : (B : Int) * mid ≤ B * Q := Int.mul_le_mul_of_nonneg_left (by omega) (by omega)
              omega
            refine vc_soundN 1000 ?_
            simp (config := { maxSteps := 2000000 }) only [divSt2, j1, k1, k2, k3, Int.reduceEq, ↓wPre, wPost, wFast, wCore, beq_self_eq_true, ite_true, ite_false, false_implies, true_implies, implies_true, eq_self, ne_eq, ↓reduceIte, reduceIte, Nat.reducePow, Nat.reduceLT, Nat.reduceLeDiff, Nat.reduceEqDiff, Nat.reduceAdd, Nat.reduceMul, Nat.reduceSub, Nat.reduceBEq, Nat.reduceDiv, Nat.reduceMod, reduceCtorEq, sl1, wFacts, zA, qA, qC, nb_tf, nb_ft, nb_tt, nb_ff]
            refine call_fn ct rfl ?_
            simp (config := { maxSteps := 2000000 }) only [k1, k2, k3, ↓wPre, wPost, wFast, wCore, beq_self_eq_true, ite_true, ite_false, false_implies, true_implies, implies_true, eq_self, ne_eq, ↓reduceIte, reduceIte, Nat.reducePow, Nat.reduceLT, Nat.reduceLeDiff, Nat.reduceEqDiff, Nat.reduceAdd, Nat.reduceMul, Nat.reduceSub, Nat.reduceBEq, Nat.reduceDiv, Nat.reduceMod, reduceCtorEq, sl1, wFacts, zA, qA, qC, nb_tf, nb_ft, nb_tt, nb_ff]
            refine call_fn cc rfl ?_
            simp (config := { maxSteps := 2000000 }) only [j2, k4, ↓wPre, wPost, wFast, wCore, beq_self_eq_true, ite_true, ite_false, false_implies, true_implies, implies_true, eq_self, ne_eq, ↓reduceIte, reduceIte, Nat.reducePow, Nat.reduceLT, Nat.reduceLeDiff, Nat.reduceEqDiff, Nat.reduceAdd, Nat.reduceMul, Nat.reduceSub, Nat.reduceBEq, Nat.reduceDiv, Nat.reduceMod, reduceCtorEq, sl1, wFacts, zA, qA, qC, nb_tf, nb_ft, nb_tt, nb_ff]
            exact next2 (lo, mid - 1) _ ⟨h1, h2, hq, by simp only; omega⟩ (by simp only; omega) (sub_mk rfl (by simp [divSt2, subL, ints, sl1, I]) (by simp [divSt2, subT]) rfl)
        · obtain rfl : lo = Q := by omega
          have j1 : (lo < hi) = False := eq_false hlh
          obtain ⟨ct, _⟩ := look lo (by omega) (by omega)
          refine vc_soundN 1000 ?_
          simp (config := { maxSteps := 2000000 }) only [divSt2, j1, ↓wPre, wPost, wFast, wCore, beq_self_eq_true, ite_true, ite_false, false_implies, true_implies, implies_true, eq_self, ne_eq, ↓reduceIte, reduceIte, Nat.reducePow, Nat.reduceLT, Nat.reduceLeDiff, Nat.reduceEqDiff, Nat.reduceAdd, Nat.reduceMul, Nat.reduceSub, Nat.reduceBEq, Nat.reduceDiv, Nat.reduceMod, reduceCtorEq, sl1, wFacts, zA, qA, qC, nb_tf, nb_ft, nb_tt, nb_ff]
          refine call_fn ct rfl ?_
          simp (config := { maxSteps := 2000000 }) only [↓wPre, wPost, wFast, wCore, beq_self_eq_true, ite_true, ite_false, false_implies, true_implies, implies_true, eq_self, ne_eq, ↓reduceIte, reduceIte, Nat.reducePow, Nat.reduceLT, Nat.reduceLeDiff, Nat.reduceEqDiff, Nat.reduceAdd, Nat.reduceMul, Nat.reduceSub, Nat.reduceBEq, Nat.reduceDiv, Nat.reduceMod, reduceCtorEq, sl1, wFacts, zA, qA, qC, nb_tf, nb_ft, nb_tt, nb_ff]
          refine call_fn cm rfl ?_
          simp (config := { maxSteps := 2000000 }) only [↓wPre, wPost, wFast, wCore, beq_self_eq_true, ite_true, ite_false, false_implies, true_implies, implies_true, eq_self, ne_eq, ↓reduceIte, reduceIte, Nat.reducePow, Nat.reduceLT, Nat.reduceLeDiff, Nat.reduceEqDiff, Nat.reduceAdd, Nat.reduceMul, Nat.reduceSub, Nat.reduceBEq, Nat.reduceDiv, Nat.reduceMod, reduceCtorEq, sl1, wFacts, zA, qA, qC, nb_tf, nb_ft, nb_tt, nb_ff]
          refine call_fn cn rfl ?_
          simp (config := { maxSteps := 2000000 }) only [f3, f3', hU, w1, Int.toNat_natCast, ↓wPre, wPost, wFast, wCore, beq_self_eq_true, ite_true, ite_false, false_implies, true_implies, implies_true, eq_self, ne_eq, ↓reduceIte, reduceIte, Nat.reducePow, Nat.reduceLT, Nat.reduceLeDiff, Nat.reduceEqDiff, Nat.reduceAdd, Nat.reduceMul, Nat.reduceSub, Nat.reduceBEq, Nat.reduceDiv, Nat.reduceMod, reduceCtorEq, sl1, wFacts, zA, qA, qC, nb_tf, nb_ft, nb_tt, nb_ff]
          exact next i _ (by omega) (by omega) (sub_cut (m := 1) (Nat.zero_le _) rfl (by simp [zA, qA, qC, nb_tf, nb_ft, nb_tt, nb_ff, divSt, hrn', subL, ints, sl1, I]) (by simp [zA, qA, qC, nb_tf, nb_ft, nb_tt, nb_ff, divSt, hrn', subT]) (by simp [zA, qA, qC, nb_tf, nb_ft, nb_tt, nb_ff, divSt, hrn', ints, sl1, I]) (by simp [zA, qA, qC, nb_tf, nb_ft, nb_tt, nb_ff, divSt, hrn', wBel]) (by simp [zA, qA, qC, nb_tf, nb_ft, nb_tt, nb_ff, divSt, hrn', wBel]) (by simp [zA, qA, qC, nb_tf, nb_ft, nb_tt, nb_ff, divSt, hrn', wBel]))
end
end Go.Ab.N

namespace Go.Ab.N
open Go Go.RowKit Go.Proofs
noncomputable section
set_option maxRecDepth 10000
set_option maxHeartbeats 2000000
set_option linter.unusedSimpArgs false
set_option linter.unusedVariables false
open Classical

theorem rdivz_fn (x y : Int) (hx : bl x < 1000000000) (hy : bl y < 1000000000) (hy0 : y ≠ 0) : Fn Try.prog 41 [zA x, zA y] (.tup [zA (x / y), zA (x % y)]) := by
  obtain ⟨L, dL, vL, lL, cd⟩ := divided_fn x.natAbs y.natAbs hx hy (by omega)
  obtain ⟨q, hq⟩ : ∃ q, q = x.natAbs / y.natAbs := ⟨_, rfl⟩
  obtain ⟨r, hr⟩ : ∃ r, r = x.natAbs % y.natAbs := ⟨_, rfl⟩
  have hry : r < y.natAbs := by rw [hr]; exact Nat.mod_lt _ (by omega)
  have hqx : q ≤ x.natAbs := by rw [hq]; exact Nat.div_le_self _ _
  rw [← hq] at vL
  rw [← hr] at cd
  have lr : (digs r).length < 1000000000 := by
    have := bl_mono (y := (r : Int)) (z := y) (by omega)
    rw [bl_nat] at this; omega
  have ly : (digs y.natAbs).length < 1000000000 := hy
  have lry : (digs r).length ≤ (digs y.natAbs).length := by
    have := bl_mono (y := (r : Int)) (z := y) (by omega)
    rw [bl_nat] at this; exact this
  have y1 : ((digs y.natAbs).length = 0) = False := eq_false (fun h => by have := digs_len_zero.1 h; omega)
  have y2 : (((digs y.natAbs).length : Int) = 0) = False := eq_false (fun h => by have := digs_len_zero.1 (show (digs y.natAbs).length = 0 by omega); omega)
  obtain ⟨q1, r1, h1⟩ : ∃ q1 r1, if x < 0 ∧ r ≠ 0 then q1 = q + 1 ∧ r1 = y.natAbs - r else q1 = q ∧ r1 = r := by
    by_cases h : x < 0 ∧ r ≠ 0
    · exact ⟨q + 1, y.natAbs - r, by rw [if_pos h]; exact ⟨rfl, rfl⟩⟩
    · exact ⟨q, r, by rw [if_neg h]; exact ⟨rfl, rfl⟩⟩
  obtain ⟨e1, e2⟩ := ediv_parts x y hy0 q r hq hr q1 r1 h1
  obtain ⟨s, hsg⟩ : ∃ s, s = (decide (x < 0) != decide (y < 0)) := ⟨_, rfl⟩
  have hsg' : (!(decide (x < 0) == decide (y < 0))) = s := by rw [hsg]; cases decide (x < 0) <;> cases decide (y < 0) <;> rfl
  have c1 := normal_z s L dL (by omega)
  rw [vL] at c1
  have c2 := normal_z false (digs r) (digs_dig r) (by omega)
  rw [digs_val, show sgn false (r : Int) = (r : Int) from rfl, zA_nat] at c2
  obtain ⟨Q, hQ⟩ : ∃ Q, Q = zA (x / y) := ⟨_, rfl⟩
  obtain ⟨R, hR⟩ : ∃ R, R = zA (x % y) := ⟨_, rfl⟩
  have sQ : Settled Q := hQ ▸ settled_zA _
  have sR : Settled R := hR ▸ settled_zA _
  rw [← hQ, ← hR]
  rw [e1, ← hsg] at hQ
  rw [e2, zA_nat] at hR
  have g1 : ∀ n : Nat, (0 < (digs n).length) = (n ≠ 0) := fun n => propext (by have := @digs_len_zero n; omega)
  have fin : ∀ {s' : AS}, resAt Try.prog s' (.cell 4 42) = some (zA (sgn s q1)) → resAt Try.prog s' (.cell 5 42) = some (.agg [.bool false, ints (digs r1)]) →
      RetOk (envP Try.prog Try.f41 [9, 10000, 100000009] [] (.tup [Q, R])) s' := fun h1 h2 => retRef2 rfl h1 h2 (sees_of sQ hQ.symm) (sees_of sR hR.symm)
  by_cases hc : x < 0 ∧ r ≠ 0
  · obtain ⟨hx0, hr0⟩ := hc
    rw [if_pos ⟨hx0, hr0⟩] at h1
    obtain ⟨rfl, rfl⟩ := h1
    have c3 := normal_z s [1] (dig_cons.2 ⟨⟨by omega, by omega⟩, dig_nil⟩) (by simp)
    rw [show val [(1 : Int)] = 1 by simp [val]] at c3
    have bq : bl (sgn s (q : Int)) < room := by
      have h2 := bl_mono (y := sgn s (q : Int)) (z := x) (by unfold sgn; split <;> omega)
      unfold room; omega
    have c4 := raddz_fn (sgn s (q : Int)) (sgn s 1) bq (by
      have := bl_i64 (n := sgn s 1) (by unfold sgn; split <;> exact ⟨by omega, by omega⟩)
      unfold room; omega)
    rw [show sgn s (q : Int) + sgn s 1 = sgn s ((q + 1 : Nat) : Int) by unfold sgn; split <;> omega] at c4
    have cm := rminus_fn (digs y.natAbs) (digs r) (digs_dig _) (digs_dig _) (by omega) lry (by rw [digs_val, digs_val]; omega)
    have vm := minusF_val (digs_dig y.natAbs) (digs_dig r) lry (by rw [digs_val, digs_val]; omega)
    rw [digs_val, digs_val] at vm
    have c5 := normal_z false (minusF (digs y.natAbs) (digs r)) (minusF_dig (digs_dig _) (digs_dig _)) (by unfold minusF; rw [tab_len]; omega)
    rw [vm, show sgn false ((y.natAbs : Int) - r) = ((y.natAbs - r : Nat) : Int) by unfold sgn; simp; omega, zA_nat] at c5
    have f1 : (x < 0) = True := eq_true hx0
    have f2 : (0 < (digs r).length) = True := eq_true (by rw [g1]; exact hr0)
    have f3 : (0 < ((digs r).length : Int)) = True := eq_true (by have := of_eq_true f2; omega)
    have hsT : (!(true == decide (y < 0))) = s := by rw [← hsg', decide_eq_true hx0]
    refine Fn.intro (fn := Try.f41) Try.call41 Try.func41 rfl mixed 10 [] [9, 10000, 100000009] [] (by kernel_rfl) (Nat.le_of_ble_eq_true rfl) (by simp [settled_ints, settled_I, settled_fn0, settled_intss, settled_bool, settled_nil, settled_zA, settled_qA, settled_zR, settled_ofA, settled_int]) (vc_soundN 1000 ?_); simp (config := { maxSteps := 2000000 }) only [AS.start, ↓wPre, wPost, wFast, wCore, beq_self_eq_true, ite_true, ite_false, false_implies, true_implies, implies_true, eq_self, ne_eq, ↓reduceIte, reduceIte, Nat.reducePow, Nat.reduceLT, Nat.reduceLeDiff, Nat.reduceEqDiff, Nat.reduceAdd, Nat.reduceMul, Nat.reduceSub, Nat.reduceBEq, Nat.reduceDiv, Nat.reduceMod, reduceCtorEq, sl1, wFacts, zA, qA, qC, nb_tf, nb_ft, nb_tt, nb_ff]
    simp only [y1, y2, f1, ↓wPre, wPost, wFast, wCore, beq_self_eq_true, ite_true, ite_false, false_implies, true_implies, implies_true, eq_self, ne_eq, ↓reduceIte, reduceIte, Nat.reducePow, Nat.reduceLT, Nat.reduceLeDiff, Nat.reduceEqDiff, Nat.reduceAdd, Nat.reduceMul, Nat.reduceSub, Nat.reduceBEq, Nat.reduceDiv, Nat.reduceMod, reduceCtorEq, sl1, wFacts, zA, qA, qC, nb_tf, nb_ft, nb_tt, nb_ff]
    refine call_fn cd rfl ?_
    simp only [f1, decide_true, hsT, ↓wPre, wPost, wFast, wCore, beq_self_eq_true, ite_true, ite_false, false_implies, true_implies, implies_true, eq_self, ne_eq, ↓reduceIte, reduceIte, Nat.reducePow, Nat.reduceLT, Nat.reduceLeDiff, Nat.reduceEqDiff, Nat.reduceAdd, Nat.reduceMul, Nat.reduceSub, Nat.reduceBEq, Nat.reduceDiv, Nat.reduceMod, reduceCtorEq, sl1, wFacts, zA, qA, qC, nb_tf, nb_ft, nb_tt, nb_ff]
    refine call_fn c1 rfl ?_
    simp only [f1, f2, f3, decide_true, ↓wPre, wPost, wFast, wCore, beq_self_eq_true, ite_true, ite_false, false_implies, true_implies, implies_true, eq_self, ne_eq, ↓reduceIte, reduceIte, Nat.reducePow, Nat.reduceLT, Nat.reduceLeDiff, Nat.reduceEqDiff, Nat.reduceAdd, Nat.reduceMul, Nat.reduceSub, Nat.reduceBEq, Nat.reduceDiv, Nat.reduceMod, reduceCtorEq, sl1, wFacts, zA, qA, qC, nb_tf, nb_ft, nb_tt, nb_ff]
    refine call_fn c2 rfl ?_
    simp only [f1, f2, f3, hsT, decide_true, ↓wPre, wPost, wFast, wCore, beq_self_eq_true, ite_true, ite_false, false_implies, true_implies, implies_true, eq_self, ne_eq, ↓reduceIte, reduceIte, Nat.reducePow, Nat.reduceLT, Nat.reduceLeDiff, Nat.reduceEqDiff, Nat.reduceAdd, Nat.reduceMul, Nat.reduceSub, Nat.reduceBEq, Nat.reduceDiv, Nat.reduceMod, reduceCtorEq, sl1, wFacts, zA, qA, qC, nb_tf, nb_ft, nb_tt, nb_ff]
    refine call_weak c3 ⟨Weak.rfl' _, weak_litE rfl rfl, trivial⟩ ?_
    simp only [↓wPre, wPost, wFast, wCore, beq_self_eq_true, ite_true, ite_false, false_implies, true_implies, implies_true, eq_self, ne_eq, ↓reduceIte, reduceIte, Nat.reducePow, Nat.reduceLT, Nat.reduceLeDiff, Nat.reduceEqDiff, Nat.reduceAdd, Nat.reduceMul, Nat.reduceSub, Nat.reduceBEq, Nat.reduceDiv, Nat.reduceMod, reduceCtorEq, sl1, wFacts, zA, qA, qC, nb_tf, nb_ft, nb_tt, nb_ff]
    refine call_fn c4 rfl ?_
    simp only [↓wPre, wPost, wFast, wCore, beq_self_eq_true, ite_true, ite_false, false_implies, true_implies, implies_true, eq_self, ne_eq, ↓reduceIte, reduceIte, Nat.reducePow, Nat.reduceLT, Nat.reduceLeDiff, Nat.reduceEqDiff, Nat.reduceAdd, Nat.reduceMul, Nat.reduceSub, Nat.reduceBEq, Nat.reduceDiv, Nat.reduceMod, reduceCtorEq, sl1, wFacts, zA, qA, qC, nb_tf, nb_ft, nb_tt, nb_ff]
    refine call_fn cm rfl ?_
    simp only [↓wPre, wPost, wFast, wCore, beq_self_eq_true, ite_true, ite_false, false_implies, true_implies, implies_true, eq_self, ne_eq, ↓reduceIte, reduceIte, Nat.reducePow, Nat.reduceLT, Nat.reduceLeDiff, Nat.reduceEqDiff, Nat.reduceAdd, Nat.reduceMul, Nat.reduceSub, Nat.reduceBEq, Nat.reduceDiv, Nat.reduceMod, reduceCtorEq, sl1, wFacts, zA, qA, qC, nb_tf, nb_ft, nb_tt, nb_ff]
    refine call_fn c5 rfl ?_
    simp only [↓wPre, wPost, wFast, wCore, beq_self_eq_true, ite_true, ite_false, false_implies, true_implies, implies_true, eq_self, ne_eq, ↓reduceIte, reduceIte, Nat.reducePow, Nat.reduceLT, Nat.reduceLeDiff, Nat.reduceEqDiff, Nat.reduceAdd, Nat.reduceMul, Nat.reduceSub, Nat.reduceBEq, Nat.reduceDiv, Nat.reduceMod, reduceCtorEq, sl1, wFacts, zA, qA, qC, nb_tf, nb_ft, nb_tt, nb_ff]
    exact fin (resAt_ref ldk42 rfl rfl rfl) (resAt_ref ldk42 rfl rfl rfl)
  rw [if_neg hc] at h1
  obtain ⟨rfl, rfl⟩ := h1
  have zr : x < 0 → (0 < (digs r1).length) = False := fun h => eq_false (by rw [g1]; exact fun h2 => hc ⟨h, h2⟩)
  by_cases hx0 : x < 0
  · have f1 : (x < 0) = True := eq_true hx0
    have f2 := zr hx0
    have f3 : (0 < ((digs r1).length : Int)) = False := eq_false (by have := of_eq_false f2; omega)
    have hsT : (!(true == decide (y < 0))) = s := by rw [← hsg', decide_eq_true hx0]
    refine Fn.intro (fn := Try.f41) Try.call41 Try.func41 rfl mixed 10 [] [9, 10000, 100000009] [] (by kernel_rfl) (Nat.le_of_ble_eq_true rfl) (by simp [settled_ints, settled_I, settled_fn0, settled_intss, settled_bool, settled_nil, settled_zA, settled_qA, settled_zR, settled_ofA, settled_int]) (vc_soundN 1000 ?_); simp (config := { maxSteps := 2000000 }) only [AS.start, ↓wPre, wPost, wFast, wCore, beq_self_eq_true, ite_true, ite_false, false_implies, true_implies, implies_true, eq_self, ne_eq, ↓reduceIte, reduceIte, Nat.reducePow, Nat.reduceLT, Nat.reduceLeDiff, Nat.reduceEqDiff, Nat.reduceAdd, Nat.reduceMul, Nat.reduceSub, Nat.reduceBEq, Nat.reduceDiv, Nat.reduceMod, reduceCtorEq, sl1, wFacts, zA, qA, qC, nb_tf, nb_ft, nb_tt, nb_ff]
    simp only [y1, y2, f1, ↓wPre, wPost, wFast, wCore, beq_self_eq_true, ite_true, ite_false, false_implies, true_implies, implies_true, eq_self, ne_eq, ↓reduceIte, reduceIte, Nat.reducePow, Nat.reduceLT, Nat.reduceLeDiff, Nat.reduceEqDiff, Nat.reduceAdd, Nat.reduceMul, Nat.reduceSub, Nat.reduceBEq, Nat.reduceDiv, Nat.reduceMod, reduceCtorEq, sl1, wFacts, zA, qA, qC, nb_tf, nb_ft, nb_tt, nb_ff]
    refine call_fn cd rfl ?_
    simp only [f1, f2, f3, decide_true, hsT, ↓wPre, wPost, wFast, wCore, beq_self_eq_true, ite_true, ite_false, false_implies, true_implies, implies_true, eq_self, ne_eq, ↓reduceIte, reduceIte, Nat.reducePow, Nat.reduceLT, Nat.reduceLeDiff, Nat.reduceEqDiff, Nat.reduceAdd, Nat.reduceMul, Nat.reduceSub, Nat.reduceBEq, Nat.reduceDiv, Nat.reduceMod, reduceCtorEq, sl1, wFacts, zA, qA, qC, nb_tf, nb_ft, nb_tt, nb_ff]
    refine call_fn c1 rfl ?_
    simp only [f1, f2, f3, decide_true, ↓wPre, wPost, wFast, wCore, beq_self_eq_true, ite_true, ite_false, false_implies, true_implies, implies_true, eq_self, ne_eq, ↓reduceIte, reduceIte, Nat.reducePow, Nat.reduceLT, Nat.reduceLeDiff, Nat.reduceEqDiff, Nat.reduceAdd, Nat.reduceMul, Nat.reduceSub, Nat.reduceBEq, Nat.reduceDiv, Nat.reduceMod, reduceCtorEq, sl1, wFacts, zA, qA, qC, nb_tf, nb_ft, nb_tt, nb_ff]
    refine call_fn c2 rfl ?_
    simp only [f1, f2, f3, decide_true, ↓wPre, wPost, wFast, wCore, beq_self_eq_true, ite_true, ite_false, false_implies, true_implies, implies_true, eq_self, ne_eq, ↓reduceIte, reduceIte, Nat.reducePow, Nat.reduceLT, Nat.reduceLeDiff, Nat.reduceEqDiff, Nat.reduceAdd, Nat.reduceMul, Nat.reduceSub, Nat.reduceBEq, Nat.reduceDiv, Nat.reduceMod, reduceCtorEq, sl1, wFacts, zA, qA, qC, nb_tf, nb_ft, nb_tt, nb_ff]
    exact fin (resAt_ref ldk42 rfl rfl rfl) (resAt_ref ldk42 rfl rfl rfl)
  · have f1 : (x < 0) = False := eq_false hx0
    have hsT : (!(false == decide (y < 0))) = s := by rw [← hsg', decide_eq_false hx0]
    refine Fn.intro (fn := Try.f41) Try.call41 Try.func41 rfl mixed 10 [] [9, 10000, 100000009] [] (by kernel_rfl) (Nat.le_of_ble_eq_true rfl) (by simp [settled_ints, settled_I, settled_fn0, settled_intss, settled_bool, settled_nil, settled_zA, settled_qA, settled_zR, settled_ofA, settled_int]) (vc_soundN 1000 ?_); simp (config := { maxSteps := 2000000 }) only [AS.start, ↓wPre, wPost, wFast, wCore, beq_self_eq_true, ite_true, ite_false, false_implies, true_implies, implies_true, eq_self, ne_eq, ↓reduceIte, reduceIte, Nat.reducePow, Nat.reduceLT, Nat.reduceLeDiff, Nat.reduceEqDiff, Nat.reduceAdd, Nat.reduceMul, Nat.reduceSub, Nat.reduceBEq, Nat.reduceDiv, Nat.reduceMod, reduceCtorEq, sl1, wFacts, zA, qA, qC, nb_tf, nb_ft, nb_tt, nb_ff]
    simp only [y1, y2, f1, ↓wPre, wPost, wFast, wCore, beq_self_eq_true, ite_true, ite_false, false_implies, true_implies, implies_true, eq_self, ne_eq, ↓reduceIte, reduceIte, Nat.reducePow, Nat.reduceLT, Nat.reduceLeDiff, Nat.reduceEqDiff, Nat.reduceAdd, Nat.reduceMul, Nat.reduceSub, Nat.reduceBEq, Nat.reduceDiv, Nat.reduceMod, reduceCtorEq, sl1, wFacts, zA, qA, qC, nb_tf, nb_ft, nb_tt, nb_ff]
    refine call_fn cd rfl ?_
    simp only [f1, decide_false, hsT, ↓wPre, wPost, wFast, wCore, beq_self_eq_true, ite_true, ite_false, false_implies, true_implies, implies_true, eq_self, ne_eq, ↓reduceIte, reduceIte, Nat.reducePow, Nat.reduceLT, Nat.reduceLeDiff, Nat.reduceEqDiff, Nat.reduceAdd, Nat.reduceMul, Nat.reduceSub, Nat.reduceBEq, Nat.reduceDiv, Nat.reduceMod, reduceCtorEq, sl1, wFacts, zA, qA, qC, nb_tf, nb_ft, nb_tt, nb_ff]
    refine call_fn c1 rfl ?_
    simp only [f1, decide_false, ↓wPre, wPost, wFast, wCore, beq_self_eq_true, ite_true, ite_false, false_implies, true_implies, implies_true, eq_self, ne_eq, ↓reduceIte, reduceIte, Nat.reducePow, Nat.reduceLT, Nat.reduceLeDiff, Nat.reduceEqDiff, Nat.reduceAdd, Nat.reduceMul, Nat.reduceSub, Nat.reduceBEq, Nat.reduceDiv, Nat.reduceMod, reduceCtorEq, sl1, wFacts, zA, qA, qC, nb_tf, nb_ft, nb_tt, nb_ff]
    refine call_fn c2 rfl ?_
    simp only [f1, decide_false, ↓wPre, wPost, wFast, wCore, beq_self_eq_true, ite_true, ite_false, false_implies, true_implies, implies_true, eq_self, ne_eq, ↓reduceIte, reduceIte, Nat.reducePow, Nat.reduceLT, Nat.reduceLeDiff, Nat.reduceEqDiff, Nat.reduceAdd, Nat.reduceMul, Nat.reduceSub, Nat.reduceBEq, Nat.reduceDiv, Nat.reduceMod, reduceCtorEq, sl1, wFacts, zA, qA, qC, nb_tf, nb_ft, nb_tt, nb_ff]
    exact fin (resAt_ref ldk42 rfl rfl rfl) (resAt_ref ldk42 rfl rfl rfl)
def rgcdSt (x y : Int) (p : Nat × Nat) : AS :=
  ⟨12, [], [.any, .any, .ref 0 0 0, .ref 1 0 0, .ref 2 0 0, .ref 3 0 0, .ref 4 0 0, .any, .any, .any, .any, .any], [],
    [.row 0 2 (ofL [.bool (decide (x < 0)), ints (digs x.natAbs)]), .row 0 2 (ofL [.bool (decide (y < 0)), ints (digs y.natAbs)]), .row 0 2 (ofL [.bool false, .sl 0 0 (fun _ => .any) true]),
     .row 0 2 (ofL [.bool false, ints (digs p.1)]), .row 0 2 (ofL [.bool false, ints (digs p.2)])]⟩
def rgcdSt2 (x y : Int) (A B : Nat) (p : Nat × Nat) : AS :=
  ⟨12, [], [.any, .any, .ref 0 0 0, .ref 1 0 0, .ref 2 0 0, .ref 3 0 0, .ref 4 0 0, I p.1, I p.2, .any, .any, .any], [],
    [.row 0 2 (ofL [.bool (decide (x < 0)), ints (digs x.natAbs)]), .row 0 2 (ofL [.bool (decide (y < 0)), ints (digs y.natAbs)]), .row 0 2 (ofL [.bool false, .sl 0 0 (fun _ => .any) true]),
     .row 0 2 (ofL [.bool false, ints (digs A)]), .row 0 2 (ofL [.bool false, ints (digs B)])]⟩
theorem rgcdz_fn (x y : Int) (hx : bl x < 1000000000) (hy : bl y < 1000000000) : Fn Try.prog 40 [zA x, zA y] (zA (Int.gcd x y)) := by
  have ofC : ∀ n : Nat, (digs n).length < 1000000002 → Fn Try.prog 44 [.bool false, ints (digs n)] (.agg [.bool false, ints (digs n)]) := fun n h => by
    have := normal_z false (digs n) (digs_dig n) (by omega)
    rw [digs_val] at this
    rw [← zA_nat]; exact this
  unfold bl at hx hy
  have cx := ofC x.natAbs (by omega)
  have cy := ofC y.natAbs (by omega)
  obtain ⟨R, hR⟩ : ∃ R, R = zA (Int.gcd x y) := ⟨_, rfl⟩
  have sR : Settled R := hR ▸ settled_zA _
  rw [← hR]
  rw [zA_nat] at hR
  refine Fn.intro (fn := Try.f40) Try.call40 Try.func40 rfl mixed 12 [] [] [] (by kernel_rfl) (Nat.le_of_ble_eq_true rfl) (by simp [settled_ints, settled_I, settled_fn0, settled_intss, settled_bool, settled_nil, settled_zA, settled_qA, settled_zR, settled_ofA, settled_int]) (vc_soundN 1000 ?_); simp (config := { maxSteps := 2000000 }) only [AS.start, ↓wPre, wPost, wFast, wCore, beq_self_eq_true, ite_true, ite_false, false_implies, true_implies, implies_true, eq_self, ne_eq, ↓reduceIte, reduceIte, Nat.reducePow, Nat.reduceLT, Nat.reduceLeDiff, Nat.reduceEqDiff, Nat.reduceAdd, Nat.reduceMul, Nat.reduceSub, Nat.reduceBEq, Nat.reduceDiv, Nat.reduceMod, reduceCtorEq, sl1, wFacts, zA, qA, qC, nb_tf, nb_ft, nb_tt, nb_ff]
  refine call_fn cx rfl ?_
  simp only [↓wPre, wPost, wFast, wCore, beq_self_eq_true, ite_true, ite_false, false_implies, true_implies, implies_true, eq_self, ne_eq, ↓reduceIte, reduceIte, Nat.reducePow, Nat.reduceLT, Nat.reduceLeDiff, Nat.reduceEqDiff, Nat.reduceAdd, Nat.reduceMul, Nat.reduceSub, Nat.reduceBEq, Nat.reduceDiv, Nat.reduceMod, reduceCtorEq, sl1, wFacts, zA, qA, qC, nb_tf, nb_ft, nb_tt, nb_ff]
  refine call_fn cy rfl ?_
  simp only [↓wPre, wPost, wFast, wCore, beq_self_eq_true, ite_true, ite_false, false_implies, true_implies, implies_true, eq_self, ne_eq, ↓reduceIte, reduceIte, Nat.reducePow, Nat.reduceLT, Nat.reduceLeDiff, Nat.reduceEqDiff, Nat.reduceAdd, Nat.reduceMul, Nat.reduceSub, Nat.reduceBEq, Nat.reduceDiv, Nat.reduceMod, reduceCtorEq, sl1, wFacts, zA, qA, qC, nb_tf, nb_ft, nb_tt, nb_ff]
  refine run_loop (rgcdSt x y) (gcdI x y) (fun p => p.2) (x.natAbs, y.natAbs) ⟨rfl, hx, hy⟩ ?_ ?_
  · exact sub_mk rfl (by simp [rgcdSt, subL]) (by simp [rgcdSt, subT]) rfl
  rintro ⟨A, B⟩ ⟨g1, g2, g3⟩ next
  simp only at g1 g2 g3
  by_cases hB : B = 0
  · have f1 : (0 < (digs B).length) = False := eq_false (by have := @digs_len_zero B; omega)
    have f2 : (0 < ((digs B).length : Int)) = False := eq_false (by have := @digs_len_zero B; omega)
    refine vc_soundN 1000 ?_
    simp only [rgcdSt, f1, f2, ↓wPre, wPost, wFast, wCore, beq_self_eq_true, ite_true, ite_false, false_implies, true_implies, implies_true, eq_self, ne_eq, ↓reduceIte, reduceIte, Nat.reducePow, Nat.reduceLT, Nat.reduceLeDiff, Nat.reduceEqDiff, Nat.reduceAdd, Nat.reduceMul, Nat.reduceSub, Nat.reduceBEq, Nat.reduceDiv, Nat.reduceMod, reduceCtorEq, sl1, wFacts, zA, qA, qC, nb_tf, nb_ft, nb_tt, nb_ff]
    refine retRefE rfl ldk42 rfl rfl rfl hR sR ?_
    rw [hB, Nat.gcd_zero_right] at g1
    rw [← g1]
    exact ⟨Weak.rfl' _, Weak.rfl' _, trivial⟩
  have f1 : (0 < (digs B).length) = True := eq_true (by have := @digs_len_zero B; omega)
  have f2 : (0 < ((digs B).length : Int)) = True := eq_true (by have := @digs_len_zero B; omega)
  by_cases hAB : (digs A).length ≤ 2 ∧ (digs B).length ≤ 2
  · have c1 := tiny_fn _ (digs_dig A) hAB.1
    have c2 := tiny_fn _ (digs_dig B) hAB.2
    rw [digs_val] at c1 c2
    have k1 : (((digs A).length : Int) ≤ 2) = True := eq_true (by omega)
    have k2 : (((digs B).length : Int) ≤ 2) = True := eq_true (by omega)
    have l1 := digs_len2 hAB.1
    have l2 := digs_len2 hAB.2
    refine vc_soundN 1000 ?_
    simp only [rgcdSt, f1, f2, k1, k2, ↓wPre, wPost, wFast, wCore, beq_self_eq_true, ite_true, ite_false, false_implies, true_implies, implies_true, eq_self, ne_eq, ↓reduceIte, reduceIte, Nat.reducePow, Nat.reduceLT, Nat.reduceLeDiff, Nat.reduceEqDiff, Nat.reduceAdd, Nat.reduceMul, Nat.reduceSub, Nat.reduceBEq, Nat.reduceDiv, Nat.reduceMod, reduceCtorEq, sl1, wFacts, zA, qA, qC, nb_tf, nb_ft, nb_tt, nb_ff]
    refine call_fn c1 rfl ?_
    simp only [↓wPre, wPost, wFast, wCore, beq_self_eq_true, ite_true, ite_false, false_implies, true_implies, implies_true, eq_self, ne_eq, ↓reduceIte, reduceIte, Nat.reducePow, Nat.reduceLT, Nat.reduceLeDiff, Nat.reduceEqDiff, Nat.reduceAdd, Nat.reduceMul, Nat.reduceSub, Nat.reduceBEq, Nat.reduceDiv, Nat.reduceMod, reduceCtorEq, sl1, wFacts, zA, qA, qC, nb_tf, nb_ft, nb_tt, nb_ff]
    refine call_fn c2 rfl ?_
    simp only [↓wPre, wPost, wFast, wCore, beq_self_eq_true, ite_true, ite_false, false_implies, true_implies, implies_true, eq_self, ne_eq, ↓reduceIte, reduceIte, Nat.reducePow, Nat.reduceLT, Nat.reduceLeDiff, Nat.reduceEqDiff, Nat.reduceAdd, Nat.reduceMul, Nat.reduceSub, Nat.reduceBEq, Nat.reduceDiv, Nat.reduceMod, reduceCtorEq, sl1, wFacts, zA, qA, qC, nb_tf, nb_ft, nb_tt, nb_ff]
    refine run_loop (rgcdSt2 x y A B) (fun p => Nat.gcd p.1 p.2 = Int.gcd x y ∧ (p.1 : Int) < 1000000000000000000 ∧ (p.2 : Int) < 1000000000000000000) (fun p => p.2) (A, B) ⟨g1, l1, l2⟩ (sub_mk rfl (by simp [rgcdSt2, subL, I]) (by simp [rgcdSt2, subT]) rfl) ?_
    rintro ⟨m, n⟩ ⟨h1, h2, h3⟩ next2
    simp only at h1 h2 h3
    by_cases hn : n = 0
    · have j1 : (0 < (n : Int)) = False := eq_false (by omega)
      have j1' : (0 < n) = False := eq_false (by omega)
      have hm : m = Int.gcd x y := by rw [hn, Nat.gcd_zero_right] at h1; exact h1
      have cu := rofZ_fn (m : Int) ⟨by omega, by omega⟩
      rw [zA_nat] at cu
      refine vc_soundN 1000 ?_
      simp only [rgcdSt2, j1, j1', ↓wPre, wPost, wFast, wCore, beq_self_eq_true, ite_true, ite_false, false_implies, true_implies, implies_true, eq_self, ne_eq, ↓reduceIte, reduceIte, Nat.reducePow, Nat.reduceLT, Nat.reduceLeDiff, Nat.reduceEqDiff, Nat.reduceAdd, Nat.reduceMul, Nat.reduceSub, Nat.reduceBEq, Nat.reduceDiv, Nat.reduceMod, reduceCtorEq, sl1, wFacts, zA, qA, qC, nb_tf, nb_ft, nb_tt, nb_ff]
      refine call_fn cu rfl ?_
      simp only [↓wPre, wPost, wFast, wCore, beq_self_eq_true, ite_true, ite_false, false_implies, true_implies, implies_true, eq_self, ne_eq, ↓reduceIte, reduceIte, Nat.reducePow, Nat.reduceLT, Nat.reduceLeDiff, Nat.reduceEqDiff, Nat.reduceAdd, Nat.reduceMul, Nat.reduceSub, Nat.reduceBEq, Nat.reduceDiv, Nat.reduceMod, reduceCtorEq, sl1, wFacts, zA, qA, qC, nb_tf, nb_ft, nb_tt, nb_ff]
      refine retRefE rfl ldk42 rfl rfl rfl hR sR ?_
      rw [← hm]
      exact ⟨Weak.rfl' _, Weak.rfl' _, trivial⟩
    · have j1 : (0 < (n : Int)) = True := eq_true (by omega)
      have j1' : (0 < n) = True := eq_true (by omega)
      have j2 : ((n : Int) = 0) = False := eq_false (by omega)
      have e2 : (m : Int).tmod n = ((m % n : Nat) : Int) := rfl
      have hlt : m % n < n := Nat.mod_lt _ (by omega)
      refine vc_soundN 1000 ?_
      simp only [rgcdSt2, j1, j1', j2, e2, ↓wPre, wPost, wFast, wCore, beq_self_eq_true, ite_true, ite_false, false_implies, true_implies, implies_true, eq_self, ne_eq, ↓reduceIte, reduceIte, Nat.reducePow, Nat.reduceLT, Nat.reduceLeDiff, Nat.reduceEqDiff, Nat.reduceAdd, Nat.reduceMul, Nat.reduceSub, Nat.reduceBEq, Nat.reduceDiv, Nat.reduceMod, reduceCtorEq, sl1, wFacts, zA, qA, qC, nb_tf, nb_ft, nb_tt, nb_ff]
      refine next2 (n, m % n) _ ⟨?_, h3, by simp only; omega⟩ hlt (sub_mk rfl (by simp [rgcdSt2, subL, I]) (by simp [rgcdSt2, subT]) rfl)
      simp only
      rw [← h1, Nat.gcd_comm m n, Nat.gcd_rec n m, Nat.gcd_comm]
  · have cd := rdivz_fn (A : Int) (B : Int) (by rw [bl_nat]; exact g2) (by rw [bl_nat]; exact g3) (by omega)
    rw [show (A : Int) / B = ((A / B : Nat) : Int) from rfl, show (A : Int) % B = ((A % B : Nat) : Int) from rfl, zA_nat, zA_nat, zA_nat, zA_nat] at cd
    have hlt : A % B < B := Nat.mod_lt _ (by omega)
    have gnew : gcdI x y (B, A % B) := by
      refine ⟨?_, g3, ?_⟩
      · simp only
        rw [← g1, Nat.gcd_comm A B, Nat.gcd_rec B A, Nat.gcd_comm]
      · have := bl_mono (y := ((A % B : Nat) : Int)) (z := (B : Int)) (by omega)
        rw [bl_nat, bl_nat] at this
        simp only; omega
    by_cases hA2 : (digs A).length ≤ 2
    · have k1 : (((digs A).length : Int) ≤ 2) = True := eq_true (by omega)
      have k2 : (((digs B).length : Int) ≤ 2) = False := eq_false fun h => hAB ⟨hA2, by omega⟩
      refine vc_soundN 1000 ?_
      simp only [rgcdSt, f1, f2, k1, k2, ↓wPre, wPost, wFast, wCore, beq_self_eq_true, ite_true, ite_false, false_implies, true_implies, implies_true, eq_self, ne_eq, ↓reduceIte, reduceIte, Nat.reducePow, Nat.reduceLT, Nat.reduceLeDiff, Nat.reduceEqDiff, Nat.reduceAdd, Nat.reduceMul, Nat.reduceSub, Nat.reduceBEq, Nat.reduceDiv, Nat.reduceMod, reduceCtorEq, sl1, wFacts, zA, qA, qC, nb_tf, nb_ft, nb_tt, nb_ff]
      refine call_fn cd rfl ?_
      simp only [↓wPre, wPost, wFast, wCore, beq_self_eq_true, ite_true, ite_false, false_implies, true_implies, implies_true, eq_self, ne_eq, ↓reduceIte, reduceIte, Nat.reducePow, Nat.reduceLT, Nat.reduceLeDiff, Nat.reduceEqDiff, Nat.reduceAdd, Nat.reduceMul, Nat.reduceSub, Nat.reduceBEq, Nat.reduceDiv, Nat.reduceMod, reduceCtorEq, sl1, wFacts, zA, qA, qC, nb_tf, nb_ft, nb_tt, nb_ff]
      exact next (B, A % B) _ gnew hlt (sub_cut (m := 5) (Nat.zero_le _) rfl (by simp [zA, qA, qC, nb_tf, nb_ft, nb_tt, nb_ff, rgcdSt, subL, ints, sl1, I]) (by simp [zA, qA, qC, nb_tf, nb_ft, nb_tt, nb_ff, rgcdSt, subT]) (by simp [zA, qA, qC, nb_tf, nb_ft, nb_tt, nb_ff, rgcdSt, ints, sl1, I]) (by simp [zA, qA, qC, nb_tf, nb_ft, nb_tt, nb_ff, rgcdSt, wBel]) (by simp [zA, qA, qC, nb_tf, nb_ft, nb_tt, nb_ff, rgcdSt, wBel]) (by simp [zA, qA, qC, nb_tf, nb_ft, nb_tt, nb_ff, rgcdSt, wBel]))
    · have k1 : (((digs A).length : Int) ≤ 2) = False := eq_false (by omega)
      refine vc_soundN 1000 ?_
      simp only [rgcdSt, f1, f2, k1, ↓wPre, wPost, wFast, wCore, beq_self_eq_true, ite_true, ite_false, false_implies, true_implies, implies_true, eq_self, ne_eq, ↓reduceIte, reduceIte, Nat.reducePow, Nat.reduceLT, Nat.reduceLeDiff, Nat.reduceEqDiff, Nat.reduceAdd, Nat.reduceMul, Nat.reduceSub, Nat.reduceBEq, Nat.reduceDiv, Nat.reduceMod, reduceCtorEq, sl1, wFacts, zA, qA, qC, nb_tf, nb_ft, nb_tt, nb_ff]
      refine call_fn cd rfl ?_
      simp only [↓wPre, wPost, wFast, wCore, beq_self_eq_true, ite_true, ite_false, false_implies, true_implies, implies_true, eq_self, ne_eq, ↓reduceIte, reduceIte, Nat.reducePow, Nat.reduceLT, Nat.reduceLeDiff, Nat.reduceEqDiff, Nat.reduceAdd, Nat.reduceMul, Nat.reduceSub, Nat.reduceBEq, Nat.reduceDiv, Nat.reduceMod, reduceCtorEq, sl1, wFacts, zA, qA, qC, nb_tf, nb_ft, nb_tt, nb_ff]
      exact next (B, A % B) _ gnew hlt (sub_cut (m := 5) (Nat.zero_le _) rfl (by simp [zA, qA, qC, nb_tf, nb_ft, nb_tt, nb_ff, rgcdSt, subL, ints, sl1, I]) (by simp [zA, qA, qC, nb_tf, nb_ft, nb_tt, nb_ff, rgcdSt, subT]) (by simp [zA, qA, qC, nb_tf, nb_ft, nb_tt, nb_ff, rgcdSt, ints, sl1, I]) (by simp [zA, qA, qC, nb_tf, nb_ft, nb_tt, nb_ff, rgcdSt, wBel]) (by simp [zA, qA, qC, nb_tf, nb_ft, nb_tt, nb_ff, rgcdSt, wBel]) (by simp [zA, qA, qC, nb_tf, nb_ft, nb_tt, nb_ff, rgcdSt, wBel]))
end
end Go.Ab.N

