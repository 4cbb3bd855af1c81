/- Contracts of functions of these chapters, for every argument that fits, and what they need. -/
import Derived.Test.YtefjhgcndhepeaaGreatC1
set_option linter.unusedSimpArgs false
set_option linter.unusedVariables false
open Nat renaming reducePow → Y1, reduceLT → Y2, reduceLeDiff → Y3, reduceEqDiff → Y4, reduceAdd → Y5, reduceMul → Y6, reduceSub → Y7, reduceBEq → Y8, reduceDiv → Y9, reduceMod → YA
namespace Go.Ab.N
open Go Go.RowKit Go.Proofs
noncomputable section
set_option maxRecDepth 10000
set_option maxHeartbeats 2000000
open Classical

theorem zA_sgn (neg : Bool) {u : Int} (h : 0 ≤ u) : zA (sgn neg u) = .agg [.bool (neg && decide (u ≠ 0)), ints (digs u.toNat)] := by
  unfold zA
  have e1 : (sgn neg u).natAbs = u.toNat := by unfold sgn; split <;> omega
  rw [e1]
  congr 3
  unfold sgn
  have h0' : ¬ u < 0 := by omega
  cases neg
  · simp [h0']
  · have : -u < 0 ↔ ¬ u = 0 := by omega
    simp only [if_true, Bool.true_and, decide_eq_decide, ne_eq]
    exact this
def U (n : Int) : AV := .int .u64 n
theorem settled_U (n : Int) : Settled (AV.int .u64 n) := settled_int _ _
theorem unsigned_fn (neg : Bool) (u : Int) (h0 : 0 ≤ u) (h1 : u < 18446744073709551616) : Fn Tryz.prog 207 [.bool neg, .int .u64 u] (zA (sgn neg u)) := by
  obtain ⟨R, hR⟩ : ∃ R, R = zA (sgn neg u) := ⟨_, rfl⟩
  have eR := hR.trans (zA_sgn neg h0)
  have sR : Settled R := hR ▸ settled_zA _
  have b1 : u ≠ 0 → (neg && decide (u ≠ 0)) = neg := fun h => by simp [h]
  have w1 : IntKind.i64.wrap (u.tmod 1000000000) = u % 1000000000 := by rw [IntKind.wrap_i64, Int.tmod_eq_emod_of_nonneg h0]; omega
  have w2 : IntKind.u64.wrap (u.tdiv 1000000000) = u / 1000000000 := by rw [IntKind.wrap_u64, Int.tdiv_eq_ediv_of_nonneg h0]; omega
  have h2 : 0 ≤ u / 1000000000 := by omega
  have w3 : IntKind.i64.wrap (u / 1000000000) = u / 1000000000 := by rw [IntKind.wrap_i64]; omega
  have w4 : IntKind.i64.wrap ((u / 1000000000).tmod 1000000000) = u / 1000000000 % 1000000000 := by rw [IntKind.wrap_i64, Int.tmod_eq_emod_of_nonneg h2]; omega
  have w5 : IntKind.u64.wrap ((u / 1000000000).tdiv 1000000000) = u / 1000000000 / 1000000000 := by rw [IntKind.wrap_u64, Int.tdiv_eq_ediv_of_nonneg h2]; omega
  have w6 : IntKind.i64.wrap (u / 1000000000 / 1000000000) = u / 1000000000 / 1000000000 := by rw [IntKind.wrap_i64]; omega
  rw [← hR]
  refine Fn.intro (fn := Tryz.f207) Tryz.call207 Tryz.func207 rfl mixed 6 [] [] [] (by kernel_rfl) (Nat.le_of_ble_eq_true rfl) (by simp [settled_ints, settled_I, settled_fn0, settled_intss, settled_bool, settled_nil, settled_zA, settled_ofA, settled_int]) (vc_soundN 1000 ?_); simp (config := { maxSteps := 2000000 }) only [AS.start, ↓wPre, wA, ↓reduceIte, reduceIte, reduceCtorEq, Y1, Y2, Y3, Y4, Y5, Y6, Y7, Y8, Y9, YA, zA, wN]
  simp only [w1, w2, w3, w4, w5, w6]
  refine ⟨fun a => ?_, fun a0 => ⟨fun a1 => ?_, fun a1 => ⟨fun a2 => ⟨by omega, by omega, ?_⟩, fun a2 => ⟨by omega, by omega, by omega, by omega, by omega, ?_⟩⟩⟩⟩
  · rw [a, show (neg && decide ((0 : Int) ≠ 0)) = false by simp, show (0 : Int).toNat = 0 from rfl, digs_zero] at eR
    exact retRefE rfl ldk26 rfl rfl rfl eR sR ⟨Weak.rfl' _, weak_emp _ _, trivial⟩
  · have w0 : IntKind.i64.wrap u = u := by rw [IntKind.wrap_i64]; omega
    rw [b1 a0, digs_one (by omega) (by omega), Int.toNat_of_nonneg h0] at eR
    rw [w0]
    exact retRefE rfl ldk26 rfl rfl rfl eR sR ⟨Weak.rfl' _, weak_litE rfl rfl, trivial⟩
  · rw [b1 a0, digs_two (by omega) (by omega)] at eR
    have e1 : ((u.toNat % 1000000000 : Nat) : Int) = u % 1000000000 := by omega
    have e2 : ((u.toNat / 1000000000 : Nat) : Int) = u / 1000000000 := by omega
    rw [e1, e2] at eR
    exact retRefE rfl ldk26 rfl rfl rfl eR sR ⟨Weak.rfl' _, weak_litE rfl rfl, trivial⟩
  · rw [b1 a0, digs_three (by omega) (by omega)] at eR
    have e1 : ((u.toNat % 1000000000 : Nat) : Int) = u % 1000000000 := by omega
    have e2 : ((u.toNat / 1000000000 % 1000000000 : Nat) : Int) = u / 1000000000 % 1000000000 := by omega
    have e3 : ((u.toNat / 1000000000 / 1000000000 : Nat) : Int) = u / 1000000000 / 1000000000 := by omega
    rw [e1, e2, e3] at eR
    exact retRefE rfl ldk26 rfl rfl rfl eR sR ⟨Weak.rfl' _, weak_litE rfl rfl, trivial⟩
theorem neg_fn (z : Int) : Fn Tryz.prog 196 [zA z] (zA (-z)) := by
  have e : (-z).natAbs = z.natAbs := by omega
  have e0 : z.natAbs = 0 ↔ z = 0 := by omega
  have e1 : (digs z.natAbs).length = 0 ↔ z = 0 := digs_len_zero.trans e0
  refine Fn.intro (fn := Tryz.f196) Tryz.call196 Tryz.func196 rfl mixed 3 [] [] [] (by kernel_rfl) (Nat.le_of_ble_eq_true rfl) (by simp [settled_ints, settled_I, settled_fn0, settled_intss, settled_bool, settled_nil, settled_zA, settled_ofA, settled_int]) (vc_soundN 1000 ?_); simp (config := { maxSteps := 2000000 }) only [AS.start, ↓wPre, wA, ↓reduceIte, reduceIte, reduceCtorEq, Y1, Y2, Y3, Y4, Y5, Y6, Y7, Y8, Y9, YA, zA, wN]
  refine ⟨fun h => retRefE rfl ldk26 rfl rfl rfl rfl (settled_zA _) ?_, fun h => retRefE rfl ldk26 rfl rfl rfl rfl (settled_zA _) ?_⟩
  · rw [e]
    have : decide (-z < 0) = decide (0 < ((digs z.natAbs).length : Int)) := by rw [decide_eq_decide]; omega
    rw [this]
    exact ⟨Weak.rfl' _, Weak.rfl' _, trivial⟩
  · rw [e, show decide (-z < 0) = false from decide_eq_false (by omega)]
    exact ⟨Weak.rfl' _, Weak.rfl' _, trivial⟩
theorem sign_fn (z : Int) : Fn Tryz.prog 155 [zA z] (I z.sign) := by
  have e0 : z.natAbs = 0 ↔ z = 0 := by omega
  have e1 : (digs z.natAbs).length = 0 ↔ z = 0 := digs_len_zero.trans e0
  refine Fn.intro (fn := Tryz.f155) Tryz.call155 Tryz.func155 rfl mixed 4 [] [] [] (by kernel_rfl) (Nat.le_of_ble_eq_true rfl) (by simp [settled_ints, settled_I, settled_fn0, settled_intss, settled_bool, settled_nil, settled_zA, settled_ofA, settled_int]) (vc_soundN 1000 ?_); simp (config := { maxSteps := 2000000 }) only [AS.start, ↓wPre, wA, ↓reduceIte, reduceIte, reduceCtorEq, Y1, Y2, Y3, Y4, Y5, Y6, Y7, Y8, Y9, YA, zA, wN]
  refine ⟨fun h => ret1E rfl rfl (settled_I _) ?_, fun h => ⟨fun h2 => ret1E rfl rfl (settled_I _) ?_, fun h2 => ret1E rfl rfl (settled_I _) ?_⟩⟩
  · rw [Int.sign_eq_neg_one_of_neg h]; rfl
  · rw [e1.1 (by omega)]; rfl
  · rw [Int.sign_eq_one_of_pos (by omega)]; rfl
theorem two_fn (d : List Int) (h : dig d) : Fn Tryz.prog 226 [ints d] (.tup [I (if d.length ≤ 2 then val d else 0), .bool (decide (d.length ≤ 2))]) := by
  have k2 : ¬ d.length ≤ 2 → I 0 = I (if d.length ≤ 2 then val d else 0) ∧ AV.bool false = .bool (decide (d.length ≤ 2)) := fun h => by simp [h]
  have k1 : d.length ≤ 2 → ∀ x, x = val d → I x = I (if d.length ≤ 2 then val d else 0) ∧ AV.bool true = .bool (decide (d.length ≤ 2)) := fun h x hx => by simp [h, hx]
  refine Fn.intro (fn := Tryz.f226) Tryz.call226 Tryz.func226 rfl mixed 4 [5] [] [] (by kernel_rfl) (Nat.le_of_ble_eq_true rfl) (by simp [settled_ints, settled_I, settled_fn0, settled_intss, settled_bool, settled_nil, settled_zA, settled_ofA, settled_int]) (vc_soundN 1000 ?_); simp (config := { maxSteps := 2000000 }) only [AS.start, ↓wPre, wA, ↓reduceIte, reduceIte, reduceCtorEq, Y1, Y2, Y3, Y4, Y5, Y6, Y7, Y8, Y9, YA, zA, wN]
  have fin : ∀ {s : AS} {x : Int}, s.get 2 = I x → s.get 3 = .bool true → d.length ≤ 2 → x = val d → RetOk (envP Tryz.prog Tryz.f226 [] [] (.tup [I (if d.length ≤ 2 then val d else 0), .bool (decide (d.length ≤ 2))])) s := fun h1 h2 hl hx =>
    ret2E rfl h1 h2 (settled_I _) (settled_bool _) (k1 hl _ hx).1 (k1 hl _ hx).2
  refine ⟨fun a => fin rfl rfl (by omega) ?_, fun a0 => ⟨fun a => ⟨by omega, by omega, fin rfl rfl (by omega) ?_⟩, fun a1 => ⟨fun a => ⟨⟨by omega, by omega⟩, by omega, by omega, by omega, fin rfl rfl (by omega) ?_⟩, fun a2 => ret2E rfl rfl rfl (settled_I _) (settled_bool _) (k2 (by omega)).1 (k2 (by omega)).2⟩⟩⟩
  · obtain rfl : d = [] := List.length_eq_zero_iff.1 (by omega)
    rfl
  · obtain ⟨x, rfl⟩ := List.length_eq_one_iff.1 (show d.length = 1 by omega)
    simp [val]
  · obtain ⟨x, y, rfl⟩ : ∃ x y, d = [x, y] := by
      match d, a with
      | [x, y], _ => exact ⟨x, y, rfl⟩
      | [], h => exact absurd h (by simp)
      | [_], h => exact absurd h (by simp)
      | _ :: _ :: _ :: _, h => exact absurd h (by simp; omega)
    have h1 := h x (by simp)
    have h2 := h y (by simp)
    unfold digt at h1 h2
    simp only [List.getD_cons_zero, List.getD_cons_succ, val, IntKind.wrap_i64]
    omega
theorem isnan_fn (a : Int) : Fn Tryz.prog 267 [I a] (.bool false) := by
  refine Fn.intro (fn := Tryz.f267) Tryz.call267 Tryz.func267 rfl mixed 3 [] [] [] (by kernel_rfl) (Nat.le_of_ble_eq_true rfl) (by simp [settled_ints, settled_I, settled_fn0, settled_intss, settled_bool, settled_nil, settled_zA, settled_ofA, settled_int]) (vc_soundN 1000 ?_); simp (config := { maxSteps := 2000000 }) only [AS.start, ↓wPre, wA, ↓reduceIte, reduceIte, reduceCtorEq, Y1, Y2, Y3, Y4, Y5, Y6, Y7, Y8, Y9, YA, zA, wN]
  exact ret1E rfl rfl (settled_bool _) rfl
theorem ccmp_fn (a b : Int) : Fn Tryz.prog 249 [I a, I b] (I (a - b).sign) := by
  refine Fn.intro (fn := Tryz.f249) Tryz.call249 Tryz.func249 rfl mixed 7 [] [] [] (by kernel_rfl) (Nat.le_of_ble_eq_true rfl) (by simp [settled_ints, settled_I, settled_fn0, settled_intss, settled_bool, settled_nil, settled_zA, settled_ofA, settled_int]) (vc_soundN 1000 ?_); simp (config := { maxSteps := 2000000 }) only [AS.start, ↓wPre, wA, ↓reduceIte, reduceIte, reduceCtorEq, Y1, Y2, Y3, Y4, Y5, Y6, Y7, Y8, Y9, YA, zA, wN]
  refine call_fn (isnan_fn a) rfl ?_
  simp only [↓wPre, wA, ↓reduceIte, reduceIte, reduceCtorEq, Y1, Y2, Y3, Y4, Y5, Y6, Y7, Y8, Y9, YA, zA, wN]
  refine call_fn (isnan_fn b) rfl ?_
  simp only [↓wPre, wA, ↓reduceIte, reduceIte, reduceCtorEq, Y1, Y2, Y3, Y4, Y5, Y6, Y7, Y8, Y9, YA, zA, wN]
  refine ⟨fun h => ret1E rfl rfl (settled_I _) ?_, fun h => ⟨fun h2 => ret1E rfl rfl (settled_I _) ?_, fun h2 => ret1E rfl rfl (settled_I _) ?_⟩⟩
  · rw [Int.sign_eq_neg_one_of_neg (by omega)]; rfl
  · rw [Int.sign_eq_one_of_pos (by omega)]; rfl
  · rw [show a - b = 0 by omega]; rfl
end
end Go.Ab.N
namespace Go.Ab.N
open Go Go.RowKit Go.Proofs
noncomputable section
set_option maxRecDepth 10000
set_option maxHeartbeats 2000000
open Classical

theorem cmp_at {a b : List Int} (ha : dig a) (hb : dig b) (hl : a.length = b.length) {i : Nat} (hi : i < a.length) (he : a.drop (i + 1) = b.drop (i + 1)) (hne : a.getD i 0 ≠ b.getD i 0) :
    (val a - val b).sign = (a.getD i 0 - b.getD i 0).sign := by
  rw [val_split a i (by omega), val_split b i (by omega), val_drop a i hi, val_drop b i (by omega), he]
  have h1 := val_nonneg (dig_take ha i)
  have h2 := val_nonneg (dig_take hb i)
  have h3 := val_lt (dig_take ha i)
  have h4 := val_lt (dig_take hb i)
  have e1 : (a.take i).length = i := by rw [List.length_take]; omega
  have e2 : (b.take i).length = i := by rw [List.length_take]; omega
  rw [e1] at h3
  rw [e2] at h4
  generalize val (a.take i) = p at *
  generalize val (b.take i) = q at *
  generalize val (b.drop (i + 1)) = r at *
  generalize a.getD i 0 = x at *
  generalize b.getD i 0 = y at *
  have hp := pw_pos i
  generalize pw i = P at *
  have e : p + P * (x + 1000000000 * r) - (q + P * (y + 1000000000 * r)) = (p - q) + P * (x - y) := by grind
  rw [e]
  rcases Int.lt_or_gt_of_ne hne with h | h
  · rw [Int.sign_eq_neg_one_of_neg (show x - y < 0 by omega)]
    have : P * (x - y) ≤ P * (-1) := Int.mul_le_mul_of_nonneg_left (by omega) (by omega)
    exact Int.sign_eq_neg_one_of_neg (by omega)
  · rw [Int.sign_eq_one_of_pos (show 0 < x - y by omega)]
    have : P * 1 ≤ P * (x - y) := Int.mul_le_mul_of_nonneg_left (by omega) (by omega)
    exact Int.sign_eq_one_of_pos (by omega)
theorem canon_lt {a b : List Int} (ha : canon a) (hb : canon b) (h : a.length < b.length) : val a < val b := by
  have h1 := val_lt ha.1
  have hne : b ≠ [] := fun e => by rw [e] at h; simp at h
  have h2 := canon_ge hb hne
  have h3 := pw_mono (show a.length ≤ b.length - 1 by omega)
  omega
theorem drop_eq_succ {a b : List Int} (hl : a.length = b.length) {i : Nat} (hi : i < a.length) (he : a.drop (i + 1) = b.drop (i + 1)) (h : a.getD i 0 = b.getD i 0) : a.drop i = b.drop i := by
  have hi2 : i < b.length := by omega
  rw [List.drop_eq_getElem_cons hi, List.drop_eq_getElem_cons hi2, he]
  rw [List.getD_eq_getElem?_getD, List.getElem?_eq_getElem hi, List.getD_eq_getElem?_getD, List.getElem?_eq_getElem hi2] at h
  simp only [Option.getD_some] at h
  rw [h]
theorem compare_fn (a b : List Int) (ha : canon a) (hb : canon b) (la : a.length < 4611686018427387904) : Fn Tryz.prog 215 [ints a, ints b] (I (val a - val b).sign) := by
  have hc : a.length ≠ b.length → Fn Tryz.prog 249 [I a.length, I b.length] (I (val a - val b).sign) := fun h => by
    have e : ((a.length : Int) - b.length).sign = (val a - val b).sign := by
      rcases Nat.lt_or_gt_of_ne h with h' | h'
      · have := canon_lt ha hb h'
        rw [Int.sign_eq_neg_one_of_neg (by omega), Int.sign_eq_neg_one_of_neg (by omega)]
      · have := canon_lt hb ha h'
        rw [Int.sign_eq_one_of_pos (by omega), Int.sign_eq_one_of_pos (by omega)]
    rw [← e]; exact ccmp_fn _ _
  refine Fn.intro (fn := Tryz.f215) Tryz.call215 Tryz.func215 rfl mixed 6 [] [] [] (by kernel_rfl) (Nat.le_of_ble_eq_true rfl) (by simp [settled_ints, settled_I, settled_fn0, settled_intss, settled_bool, settled_nil, settled_zA, settled_ofA, settled_int]) (vc_soundN 1000 ?_); simp (config := { maxSteps := 2000000 }) only [AS.start, ↓wPre, wA, ↓reduceIte, reduceIte, reduceCtorEq, Y1, Y2, Y3, Y4, Y5, Y6, Y7, Y8, Y9, YA, zA, wN]
  refine ⟨fun h => call_fn (hc h) rfl ?_, fun hl => ?_⟩
  · simp only [↓wPre, wA, ↓reduceIte, reduceIte, reduceCtorEq, Y1, Y2, Y3, Y4, Y5, Y6, Y7, Y8, Y9, YA, zA, wN]
    exact ret1E rfl rfl (settled_I _) rfl
  refine run_loop (fun k : Nat => ⟨6, [], [ints a, ints b, .any, .any, I 0, I ((k : Int) - 1)], [], []⟩) (fun k => k ≤ a.length ∧ a.drop k = b.drop k) (fun k => k) a.length ⟨by omega, by rw [List.drop_length, hl, List.drop_length]⟩
    ?_ ?_
  · have w0 : IntKind.i64.wrap ((a.length : Int) - 1) = (a.length : Int) - 1 := by rw [IntKind.wrap_i64]; omega
    rw [w0]
    exact (sub_mk rfl (by simp [zA, wN, subL, ints, intss, bools, sl1, I]) (by simp [subT]) rfl)
  rintro k ⟨hk, he⟩ next
  cases k with
  | zero =>
    refine vc_soundN 1000 ?_
    have e0 : (0 ≤ ((0 : Nat) : Int) - 1) = False := eq_false (by omega)
    have e1 : ((0 : Int) ≤ 0 - 1) = False := eq_false (by omega)
    simp only [e0, e1, ↓wPre, wA, ↓reduceIte, reduceIte, reduceCtorEq, Y1, Y2, Y3, Y4, Y5, Y6, Y7, Y8, Y9, YA, zA, wN]
    refine ret1E rfl rfl (settled_I _) ?_
    rw [List.drop_zero, List.drop_zero] at he
    rw [he, Int.sub_self]; rfl
  | succ k =>
    have e1 : ((k + 1 : Nat) : Int) - 1 = (k : Int) := by omega
    have w1 : IntKind.i64.wrap ((k : Int) - 1) = (k : Int) - 1 := by rw [IntKind.wrap_i64]; omega
    have e2 : ((k : Int) < a.length) = True := eq_true (by omega)
    have e3 : (k < a.length) = True := eq_true (by omega)
    have e4 : (k < b.length) = True := eq_true (by omega)
    have hcm : a.getD k 0 ≠ b.getD k 0 → Fn Tryz.prog 249 [I (a.getD k 0), I (b.getD k 0)] (I (val a - val b).sign) := fun h => by
      rw [cmp_at ha.1 hb.1 hl (by omega) he h]; exact ccmp_fn _ _
    refine vc_soundN 1000 ?_
    simp only [e1, w1, e3, e4, ↓wPre, wA, ↓reduceIte, reduceIte, reduceCtorEq, Y1, Y2, Y3, Y4, Y5, Y6, Y7, Y8, Y9, YA, zA, wN]
    refine ⟨fun h => call_fn (hcm h) rfl ?_, fun h => next k _ ⟨by omega, drop_eq_succ hl (by omega) he h⟩ (by omega) (sub_mk rfl (by simp [zA, wN, subL, ints, intss, bools, sl1, I]) (by simp [subT]) rfl)⟩
    simp only [↓wPre, wA, ↓reduceIte, reduceIte, reduceCtorEq, Y1, Y2, Y3, Y4, Y5, Y6, Y7, Y8, Y9, YA, zA, wN]
    exact ret1E rfl rfl (settled_I _) rfl
theorem oof_fn (n : Int) (h : in64 n) : Fn Tryz.prog 148 [I n] (zA n) := by
  obtain ⟨R, hR⟩ : ∃ R, R = zA n := ⟨_, rfl⟩
  have sR : Settled R := hR ▸ settled_zA _
  unfold in64 at h
  have c1 : n < 0 → Fn Tryz.prog 207 [.bool (decide (n < 0)), .int .u64 (IntKind.u64.wrap (0 - IntKind.u64.wrap n))] R := fun h1 => by
    have e : IntKind.u64.wrap (0 - IntKind.u64.wrap n) = -n := by rw [IntKind.wrap_u64, IntKind.wrap_u64]; omega
    have e2 : sgn (decide (n < 0)) (-n) = n := by unfold sgn; rw [if_pos (decide_eq_true h1)]; omega
    have := unsigned_fn (decide (n < 0)) (-n) (by omega) (by omega)
    rw [e2] at this
    rw [e, hR]; exact this
  have c2 : ¬ n < 0 → Fn Tryz.prog 207 [.bool (decide (n < 0)), .int .u64 (IntKind.u64.wrap n)] R := fun h1 => by
    have e : IntKind.u64.wrap n = n := by rw [IntKind.wrap_u64]; omega
    have e2 : sgn (decide (n < 0)) n = n := by unfold sgn; rw [if_neg (by simp; omega)]
    have := unsigned_fn (decide (n < 0)) n (by omega) (by omega)
    rw [e2] at this
    rw [e, hR]; exact this
  rw [← hR]
  refine Fn.intro (fn := Tryz.f148) Tryz.call148 Tryz.func148 rfl mixed 4 [] [] [] (by kernel_rfl) (Nat.le_of_ble_eq_true rfl) (by simp [settled_ints, settled_I, settled_fn0, settled_intss, settled_bool, settled_nil, settled_zA, settled_ofA, settled_int]) (vc_soundN 1000 ?_); simp (config := { maxSteps := 2000000 }) only [AS.start, ↓wPre, wA, ↓reduceIte, reduceIte, reduceCtorEq, Y1, Y2, Y3, Y4, Y5, Y6, Y7, Y8, Y9, YA, zA, wN]
  refine ⟨fun h1 => call_fn (c1 h1) rfl ?_, fun h1 => call_fn (c2 h1) rfl ?_⟩
  · simp only [hR, ↓wPre, wA, ↓reduceIte, reduceIte, reduceCtorEq, Y1, Y2, Y3, Y4, Y5, Y6, Y7, Y8, Y9, YA, zA, wN]
    exact retRefE rfl ldk26 rfl rfl rfl hR sR ⟨Weak.rfl' _, Weak.rfl' _, trivial⟩
  · simp only [hR, ↓wPre, wA, ↓reduceIte, reduceIte, reduceCtorEq, Y1, Y2, Y3, Y4, Y5, Y6, Y7, Y8, Y9, YA, zA, wN]
    exact retRefE rfl ldk26 rfl rfl rfl hR sR ⟨Weak.rfl' _, Weak.rfl' _, trivial⟩
end
end Go.Ab.N
namespace Go.Ab.N
open Go Go.RowKit Go.Proofs
noncomputable section
set_option maxRecDepth 10000
set_option maxHeartbeats 2000000
open Classical

theorem upd_I (l : List Int) (i : Nat) (x : Int) (h : i < l.length) : upd (slF I 0 l) i (.int .i64 x) = slF I 0 (l.set i x) := upd_slF I 0 l i x h
/-- Halfway through a sum. -/
def plusM (a b : List Int) (n k : Nat) : List Int := tab (fun j => if j < k then addO (dg a) (dg b) j else 0) (n + 1)
theorem plusM_len (a b : List Int) (n k : Nat) : (plusM a b n k).length = n + 1 := tab_len _ _
theorem plusM_set (a b : List Int) (n k : Nat) (h : k < n) {x : Int} (hx : x = addO (dg a) (dg b) k) : (plusM a b n k).set k x = plusM a b n (k + 1) := by
  unfold plusM
  rw [tab_setI _ _ _ _ (by omega)]
  refine tab_congr fun q _ => ?_
  by_cases e : q = k
  · subst e; rw [if_pos rfl, if_pos (by omega), hx]
  · rw [if_neg e]
    by_cases h1 : q < k
    · rw [if_pos h1, if_pos (by omega)]
    · rw [if_neg h1, if_neg (by omega)]
theorem plusM_end (a b : List Int) (n : Nat) : (plusM a b n n).set n (addC (dg a) (dg b) n) = plusF a b n := by
  unfold plusM plusF
  rw [tab_setI _ _ _ _ (by omega), tab_succ]
  congr 1
  · refine tab_congr fun q hq => ?_
    rw [if_neg (by omega), if_pos hq]
  · simp
theorem plus_fn1 (A B : List Int) (ha : dig A) (hb : dig B) (la : A.length < 10000000000000) (h : B.length ≤ A.length) :
    Fn Tryz.prog 216 [ints A, ints B] (ints (plusF A B A.length)) := by
  obtain ⟨R, hR⟩ : ∃ R, R = ints (plusF A B A.length) := ⟨_, rfl⟩
  rw [← hR]
  have hR2 : Settled R := hR ▸ settled_ints _
  have hF : (A.length < B.length) = False := eq_false (by omega)
  have w0 : IntKind.i64.wrap ((A.length : Int) + 1) = ((A.length + 1 : Nat) : Int) := by rw [IntKind.wrap_i64]; omega
  refine Fn.intro (fn := Tryz.f216) Tryz.call216 Tryz.func216 rfl mixed 10 [21, 22, 23] [] [] (by kernel_rfl) (Nat.le_of_ble_eq_true rfl) (by simp [settled_ints]) (vc_soundN 1000 ?_)
  simp (config := { maxSteps := 2000000 }) only [AS.start, hF, w0, Int.toNat_natCast, ↓wPre, wA, ↓reduceIte, reduceIte, reduceCtorEq, Y1, Y2, Y3, Y4, Y5, Y6, Y7, Y8, Y9, YA, zA, wN]
  refine ⟨⟨by omega, by omega⟩, ?_⟩
  refine run_loop (fun k : Nat => ⟨10, [21, 22, 23], [ints A, ints B, .any, .any, .sl 0 0 (fun _ => .any) true, .osl 0 0 1 0 (A.length + 1), I (addC (dg A) (dg B) k), .any, .any, .any],
    [(21, ints A), (22, I A.length), (23, I k)], [.row 0 (A.length + 1) (slF I 0 (plusM A B A.length k))]⟩) (fun k => k ≤ A.length) (fun k => A.length - k) 0 (by omega)
    ?_ ?_
  · refine (sub_rowf 0 (A.length + 1) (slF I 0 (plusM A B A.length 0)) rfl (Nat.le_refl _) ?_).trans (sub_mk rfl ?_ ?_ ?_)
    · intro j hj
      have : (plusM A B A.length 0).getD j 0 = 0 := by unfold plusM; rw [tab_at _ _ _ hj, if_neg (by omega)]
      rw [slF_at, this]; rfl
    · simp [subL, ints, sl1, I, addC]
    · simp [subT, look, ints, sl1, I]
    · rfl
  intro k hk next
  have w1 := wj k (by omega)
  have b1 := addC_bit (dg A) (dg B) k
  have b2 := dg_dig ha k
  have b3 := dg_dig hb k
  have eA : A.getD k 0 = dg A k := rfl
  have eB : B.getD k 0 = dg B k := rfl
  unfold digt at b2 b3
  have w2 : IntKind.i64.wrap (dg A k + addC (dg A) (dg B) k) = dg A k + addC (dg A) (dg B) k := by rw [IntKind.wrap_i64]; omega
  have w3 : IntKind.i64.wrap (dg A k + addC (dg A) (dg B) k + dg B k) = dg A k + addC (dg A) (dg B) k + dg B k := by rw [IntKind.wrap_i64]; omega
  have w4 : IntKind.i64.wrap (dg A k + addC (dg A) (dg B) k + dg B k - 1000000000) = dg A k + addC (dg A) (dg B) k + dg B k - 1000000000 := by rw [IntKind.wrap_i64]; omega
  have w5 : IntKind.i64.wrap (dg A k + addC (dg A) (dg B) k - 1000000000) = dg A k + addC (dg A) (dg B) k - 1000000000 := by rw [IntKind.wrap_i64]; omega
  have nB : ¬ k < B.length → dg B k = 0 := fun h => dg_out (by omega)
  have fin : ∀ (c x : Int), k < A.length → c = addC (dg A) (dg B) (k + 1) → x = addO (dg A) (dg B) k →
      ∀ tm, tm = [(21, ints A), (22, I A.length), (23, I ((k + 1 : Nat) : Int))] → True := fun _ _ _ _ _ _ _ => trivial
  have sC : ∀ c : Int, (1000000000 ≤ dg A k + dg B k + addC (dg A) (dg B) k ∧ c = 1 ∨ ¬ 1000000000 ≤ dg A k + dg B k + addC (dg A) (dg B) k ∧ c = 0) → c = addC (dg A) (dg B) (k + 1) := by
    rintro c (⟨h1, rfl⟩ | ⟨h1, rfl⟩)
    · simp only [addC]; rw [if_pos h1]
    · simp only [addC]; rw [if_neg h1]
  have sO : ∀ x : Int, (1000000000 ≤ dg A k + dg B k + addC (dg A) (dg B) k ∧ x = dg A k + dg B k + addC (dg A) (dg B) k - 1000000000 ∨ ¬ 1000000000 ≤ dg A k + dg B k + addC (dg A) (dg B) k ∧ x = dg A k + dg B k + addC (dg A) (dg B) k) → x = addO (dg A) (dg B) k := by
    rintro x (⟨h1, rfl⟩ | ⟨h1, rfl⟩)
    · unfold addO; rw [if_pos h1]
    · unfold addO; rw [if_neg h1]
  have up : ∀ x : Int, k < A.length → x = addO (dg A) (dg B) k → upd (slF I 0 (plusM A B A.length k)) k (.int .i64 x) = slF I 0 (plusM A B A.length (k + 1)) := fun x h hx => by
    rw [upd_I _ _ _ (by rw [plusM_len]; omega), plusM_set _ _ _ _ h hx]
  have upE : k = A.length → upd (slF I 0 (plusM A B A.length k)) k (.int .i64 (addC (dg A) (dg B) k)) = slF I 0 (plusF A B A.length) := fun h => by
    rw [upd_I _ _ _ (by rw [plusM_len]; omega), h, plusM_end]
  refine vc_soundN 1000 ?_
  simp (config := { maxSteps := 2000000 }) only [w1, w2, w3, w4, w5, eA, eB, ↓wPre, wA, ↓reduceIte, reduceIte, reduceCtorEq, Y1, Y2, Y3, Y4, Y5, Y6, Y7, Y8, Y9, YA, zA, wN]
  refine ⟨fun h => ⟨h, h, fun hb' => ⟨hb', hb', fun hc => ⟨by omega, by omega, ?_⟩, fun hc => ⟨by omega, by omega, ?_⟩⟩, fun hb' => ⟨fun hc => ⟨by omega, by omega, ?_⟩, fun hc => ⟨by omega, by omega, ?_⟩⟩⟩, fun h => ⟨by omega, ?_⟩⟩
  · have e1 := sC 1 (.inl ⟨by omega, rfl⟩)
    have e2 := up _ h (sO _ (.inl ⟨by omega, (by omega : dg A k + addC (dg A) (dg B) k + dg B k - 1000000000 = _)⟩))
    rw [e2]
    exact next (k + 1) _ (by omega) (by omega) (sub_mk rfl (by simp [subL, ints, sl1, I, ← e1]) (by simp [subT, look, ints, sl1, I]) rfl)
  · have e1 := sC 0 (.inr ⟨by omega, rfl⟩)
    have e2 := up _ h (sO _ (.inr ⟨by omega, (by omega : dg A k + addC (dg A) (dg B) k + dg B k = _)⟩))
    rw [e2]
    exact next (k + 1) _ (by omega) (by omega) (sub_mk rfl (by simp [subL, ints, sl1, I, ← e1]) (by simp [subT, look, ints, sl1, I]) rfl)
  · have e0 := nB hb'
    have e1 := sC 1 (.inl ⟨by omega, rfl⟩)
    have e2 := up _ h (sO _ (.inl ⟨by omega, (by omega : dg A k + addC (dg A) (dg B) k - 1000000000 = _)⟩))
    rw [e2]
    exact next (k + 1) _ (by omega) (by omega) (sub_mk rfl (by simp [subL, ints, sl1, I, ← e1]) (by simp [subT, look, ints, sl1, I]) rfl)
  · have e0 := nB hb'
    have e1 := sC 0 (.inr ⟨by omega, rfl⟩)
    have e2 := up _ h (sO _ (.inr ⟨by omega, (by omega : dg A k + addC (dg A) (dg B) k = _)⟩))
    rw [e2]
    exact next (k + 1) _ (by omega) (by omega) (sub_mk rfl (by simp [subL, ints, sl1, I, ← e1]) (by simp [subT, look, ints, sl1, I]) rfl)
  · obtain rfl : k = A.length := by omega
    rw [upE rfl, hR]
    refine ret1 rfl ?_
    have hl : (plusF A B A.length).length = A.length + 1 := plusF_len _ _ _
    have := sees_row (e := I) (d := 0) (l := plusF A B A.length) (H := [.row 0 (A.length + 1) (slF I 0 (plusF A B A.length))]) (id := 0) (ver := 0) (n := A.length + 1) (off := 0) settled_I (.inl rfl) (by omega) rfl
    rw [hl] at this
    exact this
theorem plus_fn2 (A B : List Int) (ha : dig A) (hb : dig B) (la : A.length < 10000000000000) (h : B.length < A.length) :
    Fn Tryz.prog 216 [ints B, ints A] (ints (plusF A B A.length)) := by
  obtain ⟨R, hR⟩ : ∃ R, R = ints (plusF A B A.length) := ⟨_, rfl⟩
  rw [← hR]
  have hR2 : Settled R := hR ▸ settled_ints _
  have hF : (B.length < A.length) = True := eq_true h
  have w0 : IntKind.i64.wrap ((A.length : Int) + 1) = ((A.length + 1 : Nat) : Int) := by rw [IntKind.wrap_i64]; omega
  refine Fn.intro (fn := Tryz.f216) Tryz.call216 Tryz.func216 rfl mixed 10 [21, 22, 23] [] [] (by kernel_rfl) (Nat.le_of_ble_eq_true rfl) (by simp [settled_ints]) (vc_soundN 1000 ?_)
  simp (config := { maxSteps := 2000000 }) only [AS.start, hF, w0, Int.toNat_natCast, ↓wPre, wA, ↓reduceIte, reduceIte, reduceCtorEq, Y1, Y2, Y3, Y4, Y5, Y6, Y7, Y8, Y9, YA, zA, wN]
  refine ⟨⟨by omega, by omega⟩, ?_⟩
  refine run_loop (fun k : Nat => ⟨10, [21, 22, 23], [ints A, ints B, .any, .any, .sl 0 0 (fun _ => .any) true, .osl 0 0 1 0 (A.length + 1), I (addC (dg A) (dg B) k), .any, .any, .any],
    [(21, ints A), (22, I A.length), (23, I k)], [.row 0 (A.length + 1) (slF I 0 (plusM A B A.length k))]⟩) (fun k => k ≤ A.length) (fun k => A.length - k) 0 (by omega)
    ?_ ?_
  · refine (sub_rowf 0 (A.length + 1) (slF I 0 (plusM A B A.length 0)) rfl (Nat.le_refl _) ?_).trans (sub_mk rfl ?_ ?_ ?_)
    · intro j hj
      have : (plusM A B A.length 0).getD j 0 = 0 := by unfold plusM; rw [tab_at _ _ _ hj, if_neg (by omega)]
      rw [slF_at, this]; rfl
    · simp [subL, ints, sl1, I, addC]
    · simp [subT, look, ints, sl1, I]
    · rfl
  intro k hk next
  have w1 := wj k (by omega)
  have b1 := addC_bit (dg A) (dg B) k
  have b2 := dg_dig ha k
  have b3 := dg_dig hb k
  have eA : A.getD k 0 = dg A k := rfl
  have eB : B.getD k 0 = dg B k := rfl
  unfold digt at b2 b3
  have w2 : IntKind.i64.wrap (dg A k + addC (dg A) (dg B) k) = dg A k + addC (dg A) (dg B) k := by rw [IntKind.wrap_i64]; omega
  have w3 : IntKind.i64.wrap (dg A k + addC (dg A) (dg B) k + dg B k) = dg A k + addC (dg A) (dg B) k + dg B k := by rw [IntKind.wrap_i64]; omega
  have w4 : IntKind.i64.wrap (dg A k + addC (dg A) (dg B) k + dg B k - 1000000000) = dg A k + addC (dg A) (dg B) k + dg B k - 1000000000 := by rw [IntKind.wrap_i64]; omega
  have w5 : IntKind.i64.wrap (dg A k + addC (dg A) (dg B) k - 1000000000) = dg A k + addC (dg A) (dg B) k - 1000000000 := by rw [IntKind.wrap_i64]; omega
  have nB : ¬ k < B.length → dg B k = 0 := fun h => dg_out (by omega)
  have fin : ∀ (c x : Int), k < A.length → c = addC (dg A) (dg B) (k + 1) → x = addO (dg A) (dg B) k →
      ∀ tm, tm = [(21, ints A), (22, I A.length), (23, I ((k + 1 : Nat) : Int))] → True := fun _ _ _ _ _ _ _ => trivial
  have sC : ∀ c : Int, (1000000000 ≤ dg A k + dg B k + addC (dg A) (dg B) k ∧ c = 1 ∨ ¬ 1000000000 ≤ dg A k + dg B k + addC (dg A) (dg B) k ∧ c = 0) → c = addC (dg A) (dg B) (k + 1) := by
    rintro c (⟨h1, rfl⟩ | ⟨h1, rfl⟩)
    · simp only [addC]; rw [if_pos h1]
    · simp only [addC]; rw [if_neg h1]
  have sO : ∀ x : Int, (1000000000 ≤ dg A k + dg B k + addC (dg A) (dg B) k ∧ x = dg A k + dg B k + addC (dg A) (dg B) k - 1000000000 ∨ ¬ 1000000000 ≤ dg A k + dg B k + addC (dg A) (dg B) k ∧ x = dg A k + dg B k + addC (dg A) (dg B) k) → x = addO (dg A) (dg B) k := by
    rintro x (⟨h1, rfl⟩ | ⟨h1, rfl⟩)
    · unfold addO; rw [if_pos h1]
    · unfold addO; rw [if_neg h1]
  have up : ∀ x : Int, k < A.length → x = addO (dg A) (dg B) k → upd (slF I 0 (plusM A B A.length k)) k (.int .i64 x) = slF I 0 (plusM A B A.length (k + 1)) := fun x h hx => by
    rw [upd_I _ _ _ (by rw [plusM_len]; omega), plusM_set _ _ _ _ h hx]
  have upE : k = A.length → upd (slF I 0 (plusM A B A.length k)) k (.int .i64 (addC (dg A) (dg B) k)) = slF I 0 (plusF A B A.length) := fun h => by
    rw [upd_I _ _ _ (by rw [plusM_len]; omega), h, plusM_end]
  refine vc_soundN 1000 ?_
  simp (config := { maxSteps := 2000000 }) only [w1, w2, w3, w4, w5, eA, eB, ↓wPre, wA, ↓reduceIte, reduceIte, reduceCtorEq, Y1, Y2, Y3, Y4, Y5, Y6, Y7, Y8, Y9, YA, zA, wN]
  refine ⟨fun h => ⟨h, h, fun hb' => ⟨hb', hb', fun hc => ⟨by omega, by omega, ?_⟩, fun hc => ⟨by omega, by omega, ?_⟩⟩, fun hb' => ⟨fun hc => ⟨by omega, by omega, ?_⟩, fun hc => ⟨by omega, by omega, ?_⟩⟩⟩, fun h => ⟨by omega, ?_⟩⟩
  · have e1 := sC 1 (.inl ⟨by omega, rfl⟩)
    have e2 := up _ h (sO _ (.inl ⟨by omega, (by omega : dg A k + addC (dg A) (dg B) k + dg B k - 1000000000 = _)⟩))
    rw [e2]
    exact next (k + 1) _ (by omega) (by omega) (sub_mk rfl (by simp [subL, ints, sl1, I, ← e1]) (by simp [subT, look, ints, sl1, I]) rfl)
  · have e1 := sC 0 (.inr ⟨by omega, rfl⟩)
    have e2 := up _ h (sO _ (.inr ⟨by omega, (by omega : dg A k + addC (dg A) (dg B) k + dg B k = _)⟩))
    rw [e2]
    exact next (k + 1) _ (by omega) (by omega) (sub_mk rfl (by simp [subL, ints, sl1, I, ← e1]) (by simp [subT, look, ints, sl1, I]) rfl)
  · have e0 := nB hb'
    have e1 := sC 1 (.inl ⟨by omega, rfl⟩)
    have e2 := up _ h (sO _ (.inl ⟨by omega, (by omega : dg A k + addC (dg A) (dg B) k - 1000000000 = _)⟩))
    rw [e2]
    exact next (k + 1) _ (by omega) (by omega) (sub_mk rfl (by simp [subL, ints, sl1, I, ← e1]) (by simp [subT, look, ints, sl1, I]) rfl)
  · have e0 := nB hb'
    have e1 := sC 0 (.inr ⟨by omega, rfl⟩)
    have e2 := up _ h (sO _ (.inr ⟨by omega, (by omega : dg A k + addC (dg A) (dg B) k = _)⟩))
    rw [e2]
    exact next (k + 1) _ (by omega) (by omega) (sub_mk rfl (by simp [subL, ints, sl1, I, ← e1]) (by simp [subT, look, ints, sl1, I]) rfl)
  · obtain rfl : k = A.length := by omega
    rw [upE rfl, hR]
    refine ret1 rfl ?_
    have hl : (plusF A B A.length).length = A.length + 1 := plusF_len _ _ _
    have := sees_row (e := I) (d := 0) (l := plusF A B A.length) (H := [.row 0 (A.length + 1) (slF I 0 (plusF A B A.length))]) (id := 0) (ver := 0) (n := A.length + 1) (off := 0) settled_I (.inl rfl) (by omega) rfl
    rw [hl] at this
    exact this

end
end Go.Ab.N
namespace Go.Ab.N
open Go Go.RowKit Go.Proofs
noncomputable section
set_option maxRecDepth 10000
set_option maxHeartbeats 2000000
open Classical

theorem plus_ex (a b : List Int) (ha : dig a) (hb : dig b) (la : a.length < 10000000000000) (lb : b.length < 10000000000000) :
    ∃ L, dig L ∧ val L = val a + val b ∧ L.length ≤ max a.length b.length + 1 ∧ Fn Tryz.prog 216 [ints a, ints b] (ints L) := by
  by_cases h : a.length < b.length
  · exact ⟨_, plusF_dig hb ha _, by rw [plusF_val _ _ _ (Nat.le_refl _) (by omega)]; omega, by rw [plusF_len]; omega, plus_fn2 b a hb ha lb h⟩
  · exact ⟨_, plusF_dig ha hb _, by rw [plusF_val _ _ _ (Nat.le_refl _) (by omega)], by rw [plusF_len]; omega, plus_fn1 a b ha hb la (by omega)⟩
theorem of_z (neg : Bool) (L : List Int) (h : dig L) (hl : L.length < 4611686018427387904) : Fn Tryz.prog 208 [.bool neg, ints L] (zA (sgn neg (val L))) := by
  rw [of_zA h]; exact of_fn neg L hl
theorem minusM_len (a b : List Int) (i : Nat) : (minusM a b i).length = a.length := tab_len _ _
theorem minusM_at (a b : List Int) (i : Nat) (h : i < a.length) : (minusM a b i).getD i 0 = dg a i - subC (dg a) (dg b) i := by
  unfold minusM
  rw [tab_at _ _ _ h, if_neg (by omega), if_pos rfl]
theorem minusM_next (a b : List Int) (i : Nat) (h : i + 1 < a.length) : (minusM a b i).getD (i + 1) 0 = dg a (i + 1) := by
  unfold minusM
  rw [tab_at _ _ _ h, if_neg (by omega), if_neg (by omega)]
theorem minusM_set (a b : List Int) (i : Nat) (h : i < a.length) {x : Int} (hx : x = subO (dg a) (dg b) i) (hc : subC (dg a) (dg b) (i + 1) = 0) : (minusM a b i).set i x = minusM a b (i + 1) := by
  unfold minusM
  rw [tab_setI _ _ _ _ h]
  refine tab_congr fun q _ => ?_
  by_cases e : q = i
  · subst e; rw [if_pos rfl, if_pos (by omega), hx]
  · rw [if_neg e]
    by_cases h1 : q < i
    · rw [if_pos h1, if_pos (by omega)]
    · rw [if_neg h1, if_neg e, if_neg (by omega)]
      by_cases h2 : q = i + 1
      · rw [if_pos h2, hc, h2]; omega
      · rw [if_neg h2]
theorem minusM_set2 (a b : List Int) (i : Nat) (h : i + 1 < a.length) {x y : Int} (hx : x = subO (dg a) (dg b) i) (hc : subC (dg a) (dg b) (i + 1) = 1) (hy : y = dg a (i + 1) - 1) : ((minusM a b i).set i x).set (i + 1) y = minusM a b (i + 1) := by
  unfold minusM
  rw [tab_setI _ _ _ _ (by omega), tab_setI _ _ _ _ h]
  refine tab_congr fun q _ => ?_
  by_cases e : q = i + 1
  · subst e; rw [if_pos rfl, if_neg (by omega), if_pos rfl, hc, hy]
  · rw [if_neg e]
    by_cases e2 : q = i
    · subst e2; rw [if_pos rfl, if_pos (by omega), hx]
    · rw [if_neg e2]
      by_cases h1 : q < i
      · rw [if_pos h1, if_pos (by omega)]
      · rw [if_neg h1, if_neg e2, if_neg (by omega), if_neg e]
theorem sub_end' {a b : List Int} (ha : dig a) (hb : dig b) (hl : b.length ≤ a.length) (h : val b ≤ val a) : subC (dg a) (dg b) a.length = 0 :=
  sub_end (fun i _ => dg_dig ha i) (fun i _ => dg_dig hb i) (by rw [sm_dg b _ hl, sm_dg a _ (Nat.le_refl _)]; exact h)
theorem minus_fn (a b : List Int) (ha : dig a) (hb : dig b) (la : a.length < 10000000000000) (hl : b.length ≤ a.length) (h : val b ≤ val a) : Fn Tryz.prog 217 [ints a, ints b] (ints (minusF a b)) := by
  obtain ⟨R, hR⟩ : ∃ R, R = ints (minusF a b) := ⟨_, rfl⟩
  rw [← hR]
  have hR2 : Settled R := hR ▸ settled_ints _
  refine Fn.intro (fn := Tryz.f217) Tryz.call217 Tryz.func217 rfl mixed 7 [14, 15] [] [] (by kernel_rfl) (Nat.le_of_ble_eq_true rfl) (by simp [settled_ints, settled_I, settled_fn0, settled_intss, settled_bool, settled_nil, settled_zA, settled_ofA, settled_int]) (vc_soundN 1000 ?_); simp (config := { maxSteps := 2000000 }) only [AS.start, ↓wPre, wA, ↓reduceIte, reduceIte, reduceCtorEq, Y1, Y2, Y3, Y4, Y5, Y6, Y7, Y8, Y9, YA, zA, wN]
  refine ⟨⟨by omega, by omega⟩, ?_⟩
  refine run_loop (fun k : Nat => ⟨7, [14, 15], [ints a, ints b, .any, .any, .sl 0 0 (fun _ => .any) true, .osl 0 0 1 0 a.length, .any],
    [(14, I a.length), (15, I k)], [.row 0 a.length (slF I 0 (minusM a b k))]⟩) (fun k => k ≤ a.length) (fun k => a.length - k) 0 (by omega)
    ?_ ?_
  · refine (sub_rowf 0 a.length (slF I 0 (minusM a b 0)) rfl (Nat.le_refl _) ?_).trans (sub_mk rfl ?_ ?_ ?_)
    · intro j hj
      unfold copF
      rw [if_pos (by omega), minusM_zero]; rfl
    · simp [subL, ints, sl1, I]
    · simp [subT, look, ints, sl1, I]
    · rfl
  intro k hk next
  have w1 := wj k (by omega)
  by_cases hk2 : k < a.length
  · have hend := sub_end' ha hb hl h
    have b1 := subC_bit (dg a) (dg b) k
    have b2 := dg_dig ha k
    have b3 := dg_dig hb k
    have b4 := dg_dig ha (k + 1)
    have eB : b.getD k 0 = dg b k := rfl
    have eM := minusM_at a b k hk2
    have eS : ∀ x, ((minusM a b k).set k x).getD k 0 = x := fun x => by rw [getD_setI _ _ _ _ (by rw [minusM_len]; exact hk2), if_pos rfl]
    have hU : ∀ x : Int, upd (slF I 0 (minusM a b k)) k (.int .i64 x) = slF I 0 ((minusM a b k).set k x) := fun x => upd_I _ _ _ (by rw [minusM_len]; exact hk2)
    have hU2 : ∀ x y : Int, upd (slF I 0 ((minusM a b k).set k x)) k (.int .i64 y) = slF I 0 ((minusM a b k).set k y) := fun x y => by rw [upd_I _ _ _ (by rw [List.length_set, minusM_len]; exact hk2), List.set_set]
    have e1 : ((k : Int) < a.length) = True := eq_true (by omega)
    have e2 : (k < a.length) = True := eq_true hk2
    have hs1 : dg a k - dg b k - subC (dg a) (dg b) k < 0 → subC (dg a) (dg b) (k + 1) = 1 ∧ dg a k - dg b k - subC (dg a) (dg b) k + 1000000000 = subO (dg a) (dg b) k := fun h => ⟨by simp only [subC]; rw [if_pos h], by unfold subO; rw [if_pos h]⟩
    have hs0 : ¬ dg a k - dg b k - subC (dg a) (dg b) k < 0 → subC (dg a) (dg b) (k + 1) = 0 ∧ dg a k - dg b k - subC (dg a) (dg b) k = subO (dg a) (dg b) k := fun h => ⟨by simp only [subC]; rw [if_neg h], by unfold subO; rw [if_neg h]⟩
    have nB : ¬ k < b.length → dg b k = 0 := fun h => dg_out (by omega)
    have hroom : subC (dg a) (dg b) (k + 1) = 1 → k + 1 < a.length := fun h1 => by
      apply Classical.byContradiction
      intro h2
      rw [show k + 1 = a.length by omega, hend] at h1
      omega
    have up2 : ∀ x : Int, k + 1 < a.length → x = subO (dg a) (dg b) k → subC (dg a) (dg b) (k + 1) = 1 → upd (slF I 0 ((minusM a b k).set k x)) (k + 1) (.int .i64 (IntKind.i64.wrap (((minusM a b k).set k x).getD (k + 1) 0 - 1))) = slF I 0 (minusM a b (k + 1)) := fun x hr hx hc => by
      rw [getD_setI _ _ _ _ (by rw [minusM_len]; exact hk2), if_neg (by omega), minusM_next a b k hr]
      have w : IntKind.i64.wrap (dg a (k + 1) - 1) = dg a (k + 1) - 1 := by unfold digt at b4; rw [IntKind.wrap_i64]; omega
      rw [w, upd_I _ _ _ (by rw [List.length_set, minusM_len]; exact hr), minusM_set2 a b k hr hx hc rfl]
    have up1 : ∀ x : Int, x = subO (dg a) (dg b) k → subC (dg a) (dg b) (k + 1) = 0 → (minusM a b k).set k x = minusM a b (k + 1) := fun x hx hc => minusM_set a b k hk2 hx hc
    unfold digt at b2 b3 b4
    generalize hA : dg a k = A at *
    generalize hB : dg b k = B at *
    generalize hC : subC (dg a) (dg b) k = C at *
    have w2 : IntKind.i64.wrap (A - C - B) = A - C - B := by rw [IntKind.wrap_i64]; omega
    have w3 : IntKind.i64.wrap (A - C - B + 1000000000) = A - C - B + 1000000000 := by rw [IntKind.wrap_i64]; omega
    have w4 : IntKind.i64.wrap (A - C + 1000000000) = A - C + 1000000000 := by rw [IntKind.wrap_i64]; omega
    refine vc_soundN 1000 ?_
    simp (config := { maxSteps := 2000000 }) only [w1, w2, w3, w4, e1, e2, eM, eB, hB, eS, hU, hU2, ↓wPre, wA, ↓reduceIte, reduceIte, reduceCtorEq, Y1, Y2, Y3, Y4, Y5, Y6, Y7, Y8, Y9, YA, zA, wN]
    have set_same : (minusM a b k).set k (A - C) = minusM a b k := by
      refine List.ext_getElem? fun q => ?_
      rw [List.getElem?_set]
      by_cases e : k = q
      · subst e
        rw [if_pos rfl, if_pos (by rw [minusM_len]; exact hk2), ← eM, List.getD_eq_getElem?_getD, List.getElem?_eq_getElem (by rw [minusM_len]; exact hk2)]; rfl
      · rw [if_neg e]
    refine ⟨fun hb' => ⟨hb', hb', by omega, fun hc => ?_, fun hc => ?_⟩, fun hb' => ⟨fun hc => ?_, fun hc => ?_⟩⟩
    · obtain ⟨s1, s2⟩ := hs1 (by omega)
      have hr := hroom s1
      refine ⟨by omega, hr, hr, hr, by omega, ?_⟩
      rw [up2 _ hr (by omega) s1]
      exact next (k + 1) _ (by omega) (by omega) (sub_mk rfl (by simp [subL, ints, sl1, I]) (by simp [subT, look, ints, sl1, I]) rfl)
    · obtain ⟨s1, s2⟩ := hs0 (by omega)
      rw [up1 _ (by omega) s1]
      exact next (k + 1) _ (by omega) (by omega) (sub_mk rfl (by simp [subL, ints, sl1, I]) (by simp [subT, look, ints, sl1, I]) rfl)
    · have nB' := nB hb'
      obtain ⟨s1, s2⟩ := hs1 (by omega)
      have hr := hroom s1
      refine ⟨by omega, hr, hr, hr, by omega, ?_⟩
      rw [up2 _ hr (by omega) s1]
      exact next (k + 1) _ (by omega) (by omega) (sub_mk rfl (by simp [subL, ints, sl1, I]) (by simp [subT, look, ints, sl1, I]) rfl)
    · have nB' := nB hb'
      obtain ⟨s1, s2⟩ := hs0 (by omega)
      have := up1 (A - C) (by omega) s1
      rw [set_same] at this
      rw [this]
      exact next (k + 1) _ (by omega) (by omega) (sub_mk rfl (by simp [subL, ints, sl1, I]) (by simp [subT, look, ints, sl1, I]) rfl)
  · obtain rfl : k = a.length := by omega
    refine vc_soundN 1000 ?_
    simp (config := { maxSteps := 2000000 }) only [↓wPre, wA, ↓reduceIte, reduceIte, reduceCtorEq, Y1, Y2, Y3, Y4, Y5, Y6, Y7, Y8, Y9, YA, zA, wN]
    rw [hR]
    refine ret1 rfl (sees_rowE settled_I rfl rfl (tab_len _ _).symm (by rw [minusM_end]) (Nat.le_of_eq (tab_len _ _)))
theorem minus_ex (a b : List Int) (ha : dig a) (hb : dig b) (la : a.length < 10000000000000) (hl : b.length ≤ a.length) (h : val b ≤ val a) :
    ∃ L, dig L ∧ val L = val a - val b ∧ L.length ≤ a.length ∧ Fn Tryz.prog 217 [ints a, ints b] (ints L) :=
  ⟨_, minusF_dig ha hb, minusF_val ha hb hl h, Nat.le_of_eq (tab_len _ _), minus_fn a b ha hb la hl h⟩
end
end Go.Ab.N
namespace Go.Ab.N
open Go Go.RowKit Go.Proofs
noncomputable section
set_option maxRecDepth 10000
set_option maxHeartbeats 2000000
open Classical

/-- The number of digits of an integer. -/
def bl (z : Int) : Nat := (digs z.natAbs).length
theorem digs_len_le {n k : Nat} (h : (n : Int) < pw k) : (digs n).length ≤ k := by
  apply Classical.byContradiction
  intro h2
  have hne : digs n ≠ [] := fun e => by rw [e] at h2; simp at h2
  have h3 := canon_ge (digs_canon n) hne
  rw [digs_val] at h3
  have h4 := pw_mono (show k ≤ (digs n).length - 1 by omega)
  omega
theorem digs_lt (n : Nat) : (n : Int) < pw (digs n).length := by
  have := val_lt (digs_dig n)
  rwa [digs_val] at this
theorem bl_le {z : Int} {k : Nat} (h : (z.natAbs : Int) < pw k) : bl z ≤ k := digs_len_le h
theorem bl_lt (z : Int) : (z.natAbs : Int) < pw (bl z) := digs_lt _
theorem bl_neg (z : Int) : bl (-z) = bl z := by unfold bl; rw [Int.natAbs_neg]
theorem bl_mono {y z : Int} (h : y.natAbs ≤ z.natAbs) : bl y ≤ bl z := bl_le (by have := bl_lt z; omega)
theorem bl_add (x y : Int) : bl (x + y) ≤ max (bl x) (bl y) + 1 := by
  refine bl_le ?_
  have h1 := bl_lt x
  have h2 := bl_lt y
  have h3 := pw_mono (Nat.le_max_left (bl x) (bl y))
  have h4 := pw_mono (Nat.le_max_right (bl x) (bl y))
  have h5 : ((x + y).natAbs : Int) ≤ x.natAbs + y.natAbs := by omega
  simp only [pw]; omega
theorem bl_mul (x y : Int) : bl (x * y) ≤ bl x + bl y := by
  refine bl_le ?_
  rw [Int.natAbs_mul, pw_add]
  have h1 := bl_lt x
  have h2 := bl_lt y
  push_cast
  have h3 : (x.natAbs : Int) * y.natAbs ≤ x.natAbs * pw (bl y) := Int.mul_le_mul_of_nonneg_left (by omega) (by omega)
  have h4 : (x.natAbs : Int) * pw (bl y) < pw (bl x) * pw (bl y) := Int.mul_lt_mul_of_pos_right h1 (pw_pos _)
  omega
theorem sgn_abs (x : Int) : sgn (decide (x < 0)) x.natAbs = x := by
  unfold sgn
  by_cases h : x < 0
  · rw [if_pos (decide_eq_true h)]; omega
  · rw [if_neg (by simpa using h)]; omega
def room : Nat := 1000000000000
theorem add_fn (x y : Int) (hx : bl x < room) (hy : bl y < room) : Fn Tryz.prog 157 [zA x, zA y] (zA (x + y)) := by
  obtain ⟨R, hR⟩ : ∃ R, R = zA (x + y) := ⟨_, rfl⟩
  have sR : Settled R := hR ▸ settled_zA _
  unfold bl room at hx hy
  have dx := digs_dig x.natAbs
  have dy := digs_dig y.natAbs
  have vx := digs_val x.natAbs
  have vy := digs_val y.natAbs
  have p1 : (x < 0 ↔ y < 0) → ∃ L, Fn Tryz.prog 216 [ints (digs x.natAbs), ints (digs y.natAbs)] (ints L) ∧ Fn Tryz.prog 208 [.bool (decide (x < 0)), ints L] R := fun h => by
    obtain ⟨L, l1, l2, l3, l4⟩ := plus_ex _ _ dx dy (by omega) (by omega)
    refine ⟨L, l4, ?_⟩
    have e : sgn (decide (x < 0)) (val L) = x + y := by
      rw [l2, vx, vy]; unfold sgn
      by_cases h2 : x < 0
      · rw [if_pos (decide_eq_true h2)]; omega
      · rw [if_neg (by simpa using h2)]; omega
    have := of_z (decide (x < 0)) L l1 (by omega)
    rwa [e, ← hR] at this
  have cmp := compare_fn _ _ (digs_canon x.natAbs) (digs_canon y.natAbs) (by omega)
  rw [vx, vy] at cmp
  have p2 : ¬ (x < 0 ↔ y < 0) → ((x.natAbs : Int) - y.natAbs).sign < 0 → ∃ L, Fn Tryz.prog 217 [ints (digs y.natAbs), ints (digs x.natAbs)] (ints L) ∧ Fn Tryz.prog 208 [.bool (decide (y < 0)), ints L] R := fun h hc => by
    have hlt : (x.natAbs : Int) - y.natAbs < 0 := Int.sign_neg_iff.1 hc
    have hl : (digs x.natAbs).length ≤ (digs y.natAbs).length := bl_mono (show x.natAbs ≤ y.natAbs by omega)
    obtain ⟨L, l1, l2, l3, l4⟩ := minus_ex _ _ dy dx (by omega) hl (by omega)
    refine ⟨L, l4, ?_⟩
    have e : sgn (decide (y < 0)) (val L) = x + y := by
      rw [l2, vx, vy]; unfold sgn
      by_cases h2 : y < 0
      · rw [if_pos (decide_eq_true h2)]; omega
      · rw [if_neg (by simpa using h2)]; omega
    have := of_z (decide (y < 0)) L l1 (by omega)
    rwa [e, ← hR] at this
  have p3 : ¬ (x < 0 ↔ y < 0) → ¬ ((x.natAbs : Int) - y.natAbs).sign < 0 → ∃ L, Fn Tryz.prog 217 [ints (digs x.natAbs), ints (digs y.natAbs)] (ints L) ∧ Fn Tryz.prog 208 [.bool (decide (x < 0)), ints L] R := fun h hc => by
    have hlt : ¬ (x.natAbs : Int) - y.natAbs < 0 := fun h => hc (Int.sign_neg_iff.2 h)
    have hl : (digs y.natAbs).length ≤ (digs x.natAbs).length := bl_mono (show y.natAbs ≤ x.natAbs by omega)
    obtain ⟨L, l1, l2, l3, l4⟩ := minus_ex _ _ dx dy (by omega) hl (by omega)
    refine ⟨L, l4, ?_⟩
    have e : sgn (decide (x < 0)) (val L) = x + y := by
      rw [l2, vx, vy]; unfold sgn
      by_cases h2 : x < 0
      · rw [if_pos (decide_eq_true h2)]; omega
      · rw [if_neg (by simpa using h2)]; omega
    have := of_z (decide (x < 0)) L l1 (by omega)
    rwa [e, ← hR] at this
  rw [← hR]
  refine Fn.intro (fn := Tryz.f157) Tryz.call157 Tryz.func157 rfl mixed 6 [] [] [] (by kernel_rfl) (Nat.le_of_ble_eq_true rfl) (by simp [settled_ints, settled_I, settled_fn0, settled_intss, settled_bool, settled_nil, settled_zA, settled_ofA, settled_int]) (vc_soundN 1000 ?_); simp (config := { maxSteps := 2000000 }) only [AS.start, ↓wPre, wA, ↓reduceIte, reduceIte, reduceCtorEq, Y1, Y2, Y3, Y4, Y5, Y6, Y7, Y8, Y9, YA, zA, wN]
  refine guardP_intro (fun h => ?_) (fun h => ?_)
  · obtain ⟨L, c1, c2⟩ := p1 (by simpa using h)
    refine call_fn c1 rfl ?_
    simp only [↓wPre, wA, ↓reduceIte, reduceIte, reduceCtorEq, Y1, Y2, Y3, Y4, Y5, Y6, Y7, Y8, Y9, YA, zA, wN]
    refine call_fn c2 rfl ?_
    simp only [hR, ↓wPre, wA, ↓reduceIte, reduceIte, reduceCtorEq, Y1, Y2, Y3, Y4, Y5, Y6, Y7, Y8, Y9, YA, zA, wN]
    exact retRefE rfl ldk26 rfl rfl rfl hR sR ⟨Weak.rfl' _, Weak.rfl' _, trivial⟩
  · have h' : ¬ (x < 0 ↔ y < 0) := by simpa using h
    refine call_fn cmp rfl ?_
    simp only [↓wPre, wA, ↓reduceIte, reduceIte, reduceCtorEq, Y1, Y2, Y3, Y4, Y5, Y6, Y7, Y8, Y9, YA, zA, wN]
    refine ⟨fun hc => ?_, fun hc => ?_⟩
    · obtain ⟨L, c1, c2⟩ := p2 h' hc
      refine call_fn c1 rfl ?_
      simp only [↓wPre, wA, ↓reduceIte, reduceIte, reduceCtorEq, Y1, Y2, Y3, Y4, Y5, Y6, Y7, Y8, Y9, YA, zA, wN]
      refine call_fn c2 rfl ?_
      simp only [hR, ↓wPre, wA, ↓reduceIte, reduceIte, reduceCtorEq, Y1, Y2, Y3, Y4, Y5, Y6, Y7, Y8, Y9, YA, zA, wN]
      exact retRefE rfl ldk26 rfl rfl rfl hR sR ⟨Weak.rfl' _, Weak.rfl' _, trivial⟩
    · obtain ⟨L, c1, c2⟩ := p3 h' hc
      refine call_fn c1 rfl ?_
      simp only [↓wPre, wA, ↓reduceIte, reduceIte, reduceCtorEq, Y1, Y2, Y3, Y4, Y5, Y6, Y7, Y8, Y9, YA, zA, wN]
      refine call_fn c2 rfl ?_
      simp only [hR, ↓wPre, wA, ↓reduceIte, reduceIte, reduceCtorEq, Y1, Y2, Y3, Y4, Y5, Y6, Y7, Y8, Y9, YA, zA, wN]
      exact retRefE rfl ldk26 rfl rfl rfl hR sR ⟨Weak.rfl' _, Weak.rfl' _, trivial⟩
end
end Go.Ab.N
namespace Go.Ab.N
open Go Go.RowKit Go.Proofs
noncomputable section
set_option maxRecDepth 10000
set_option maxHeartbeats 2000000
open Classical

theorem settled_zB (s : Bool) (l : List Int) : Settled (.agg [.bool s, ints l]) := settled_agg (by simp [settled_ints, settled_bool])
theorem weakIn_ints {H : List AO} {id ver : Nat} {l : List Int} (ho : H[id]? = some (.con ver l.length (slF I 0 l))) : WeakIn H (.osl id ver 1 0 l.length) (ints l) :=
  weakIn_osl ho (Nat.le_refl _) (fun h => h) fun _ _ => weakIn_rfl _ _
/-- An object of digits that is written no more, as a value. -/
theorem sub_freeze {m : Nat} {s : AS} (id slot : Nat) {ver : Nat} {l : List Int} (ho : s.h[id]? = some (.row ver l.length (slF I 0 l))) (hs : s.sl.getD slot .any = .osl id ver 1 0 l.length) (hi : slot < s.n0) :
    Sub m s { s with sl := s.sl.set slot (ints l), h := s.h.set id (.con ver l.length (slF I 0 l)) } := by
  refine (sub_con id ho).trans ?_
  have hlt := (List.getElem?_eq_some_iff.1 ho).1
  refine sub_weakIn (s := { s with h := s.h.set id (.con ver l.length (slF I 0 l)) }) slot (ints l) hi ?_
  show WeakIn _ (s.sl.getD slot .any) _
  rw [hs]
  exact weakIn_ints (by simp [hlt])

def mulI (a b : List Int) (p : List Int × Nat) : Prop :=
  p.2 ≤ a.length ∧ p.1.length = a.length + b.length ∧ dig p.1 ∧ (∀ j, p.2 + b.length ≤ j → p.1.getD j 0 = 0) ∧ val p.1 = val (a.take p.2) * val b
def mulJ (a b O : List Int) (i : Nat) (p : List Int × Int × Nat) : Prop :=
  p.2.2 ≤ b.length ∧ p.1.length = a.length + b.length ∧ dig p.1 ∧ digt p.2.1 ∧ (∀ j, i + b.length ≤ j → p.1.getD j 0 = 0) ∧ val p.1 + p.2.1 * pw (i + p.2.2) = val O + dg a i * val (b.take p.2.2) * pw i
theorem mulJ_step {a b O : List Int} {i : Nat} {O' : List Int} {c : Int} {k : Nat} (ha : dig a) (hb : dig b) (hi : i < a.length) (hk : k < b.length) (h : mulJ a b O i (O', c, k)) {v : Int} (hv : v = O'.getD (i + k) 0 + dg a i * dg b k + c) :
    0 ≤ v ∧ v < 1000000000000000000 ∧ mulJ a b O i (O'.set (i + k) (v - v / 1000000000 * 1000000000), v / 1000000000, k + 1) := by
  obtain ⟨h1, h2, h3, h4, h5, h6⟩ := h
  simp only at h1 h2 h3 h4 h5 h6
  have o1 := dig_at h3 (i + k)
  have m1 := digt_mul (dg_dig ha i) (dg_dig hb k)
  unfold digt at o1 h4
  have v0 : 0 ≤ v := by omega
  have v1 : v < 1000000000000000000 := by omega
  refine ⟨v0, v1, by simp only; omega, by simp [h2], dig_set h3 _ ⟨by omega, by omega⟩, ⟨by simp only; omega, by simp only; omega⟩, fun j hj => ?_, ?_⟩
  · simp only at hj ⊢
    rw [getD_setI _ _ _ _ (by omega), if_neg (by omega)]; exact h5 j hj
  · simp only
    rw [val_set _ _ _ (by omega), val_take_succ b k hk, show i + (k + 1) = (i + k) + 1 by omega]
    have hd : dg b k = b.getD k 0 := rfl
    rw [← hd]
    simp only [pw]
    generalize v / 1000000000 = q at *
    generalize O'.getD (i + k) 0 = o at *
    have e := pw_add i k
    rw [e] at h6 ⊢
    generalize pw i = P at *
    generalize pw k = Q at *
    generalize val (b.take k) = W at *
    grind
theorem mulI_step {a b O : List Int} {i : Nat} {O' : List Int} {c : Int} (hi : i < a.length) (h0 : mulI a b (O, i)) (h : mulJ a b O i (O', c, b.length)) : mulI a b (O'.set (i + b.length) c, i + 1) := by
  obtain ⟨h1, h2, h3, h4, h5, h6⟩ := h
  simp only at h1 h2 h3 h4 h5 h6
  obtain ⟨_, _, _, _, g⟩ := h0
  simp only at g
  refine ⟨by simp only; omega, by simp [h2], dig_set h3 _ h4, fun j hj => ?_, ?_⟩
  · simp only at hj ⊢
    rw [getD_setI _ _ _ _ (by omega), if_neg (by omega)]; exact h5 j (by omega)
  · simp only
    rw [val_set _ _ _ (by omega), h5 _ (Nat.le_refl _), val_take_succ a i hi]
    rw [List.take_length] at h6
    have hd : dg a i = a.getD i 0 := rfl
    rw [← hd]
    rw [g] at h6
    generalize pw i = P at *
    generalize pw (i + b.length) = Q at *
    generalize val (a.take i) = W at *
    grind
theorem mul_gen (sx sy : Bool) (a b : List Int) (ha : dig a) (hb : dig b) (la : a.length < room) (lb : b.length < room) :
    Fn Tryz.prog 144 [.agg [.bool sx, ints a], .agg [.bool sy, ints b]] (zA (sgn (sx != sy) (val a * val b))) := by
  obtain ⟨R, hR⟩ : ∃ R, R = zA (sgn (sx != sy) (val a * val b)) := ⟨_, rfl⟩
  have sR : Settled R := hR ▸ settled_zA _
  unfold room at la lb
  rw [← hR]
  have w0 : IntKind.i64.wrap ((a.length : Int) + b.length) = ((a.length + b.length : Nat) : Int) := by rw [IntKind.wrap_i64]; omega
  refine Fn.intro (fn := Tryz.f144) Tryz.call144 Tryz.func144 rfl mixed 14 [47, 48, 49, 54, 55, 56] [] [] (by kernel_rfl) (Nat.le_of_ble_eq_true rfl) (by simp [settled_zB]) (vc_soundN 1000 ?_)
  simp (config := { maxSteps := 2000000 }) only [AS.start, w0, Int.toNat_natCast, ↓wPre, wA, ↓reduceIte, reduceIte, reduceCtorEq, Y1, Y2, Y3, Y4, Y5, Y6, Y7, Y8, Y9, YA, zA, wN]
  refine (fun key => ⟨fun h1 => ⟨fun h2 => ⟨by omega, by omega, by omega, by omega, ?c⟩, fun h2 => ⟨⟨by omega, by omega⟩, key⟩⟩, fun h1 => ⟨⟨by omega, by omega⟩, key⟩⟩) ?r
  case c =>
    obtain ⟨p, rfl⟩ := List.length_eq_one_iff.1 (show a.length = 1 by omega)
    obtain ⟨q, rfl⟩ := List.length_eq_one_iff.1 (show b.length = 1 by omega)
    have hp := ha p (by simp)
    have hq := hb q (by simp)
    have m1 := digt_mul hp hq
    unfold digt at hp hq
    have e1 : IntKind.u64.wrap p = p := by rw [IntKind.wrap_u64]; omega
    have e2 : IntKind.u64.wrap q = q := by rw [IntKind.wrap_u64]; omega
    have e3 : IntKind.u64.wrap (p * q) = p * q := by rw [IntKind.wrap_u64]; omega
    have c := unsigned_fn (sx != sy) (p * q) (by omega) (by omega)
    have e4 : val [p] * val [q] = p * q := by simp [val]
    rw [e4] at hR
    rw [← hR] at c
    simp only [List.getD_cons_zero, e1, e2, e3]
    have e5 : (!sx == sy) = (sx != sy) := by cases sx <;> cases sy <;> rfl
    rw [e5]
    refine call_fn c rfl ?_
    simp only [hR, ↓wPre, wA, ↓reduceIte, reduceIte, reduceCtorEq, Y1, Y2, Y3, Y4, Y5, Y6, Y7, Y8, Y9, YA, zA, wN]
    exact retRefE rfl ldk26 rfl rfl rfl hR sR ⟨Weak.rfl' _, Weak.rfl' _, trivial⟩
  refine run_loop (fun p : List Int × Nat => ⟨14, [47, 48, 49, 54, 55, 56], [.any, .any, .ref 0 0 0, .ref 1 0 0, .ref 2 0 0, ints a, ints b, .osl 3 0 1 0 (a.length + b.length), .any, .any, .any, .any, .any, .any],
    [(47, ints a), (48, I a.length), (49, I p.2)], [.row 0 2 (ofL [.bool sx, ints a]), .row 0 2 (ofL [.bool sy, ints b]), .row 0 2 (ofL [.bool false, .sl 0 0 (fun _ => .any) true]), .row 0 (a.length + b.length) (slF I 0 p.1)]⟩)
    (mulI a b) (fun p => a.length - p.2) (List.replicate (a.length + b.length) 0, 0) ?_ ?_ ?_
  · refine ⟨Nat.zero_le _, by simp, fun d hd => ?_, fun j _ => ?_, ?_⟩
    · rw [(List.mem_replicate.1 hd).2]; exact ⟨by omega, by omega⟩
    · simp [List.getD_eq_getElem?_getD, List.getElem?_replicate]
      split <;> rfl
    · simp only [List.take_zero]; rw [val_zeros]; simp [val]
  · refine (sub_rowf 3 (a.length + b.length) (slF I 0 (List.replicate (a.length + b.length) 0)) rfl (Nat.le_refl _) ?_).trans (sub_mk rfl ?_ ?_ ?_)
    · intro j hj
      rw [slF_at]
      simp [List.getD_eq_getElem?_getD, List.getElem?_replicate, hj, I]
    · simp [subL, ints, sl1, I]
    · simp [subT, look, ints, sl1, I]
    · rfl
  rintro ⟨O, i⟩ hO next
  obtain ⟨g1, g2, g3, g4, g5⟩ := hO
  simp only at g1 g2 g3 g4 g5
  have w1 := wj i (by omega)
  by_cases hi : i < a.length
  · have e1 : ((i : Int) < a.length) = True := eq_true (by omega)
    have e2 : (i < a.length) = True := eq_true hi
    have eA : a.getD i 0 = dg a i := rfl
    refine vc_soundN 1000 ?_
    simp (config := { maxSteps := 2000000 }) only [w1, e1, e2, eA, ↓wPre, wA, ↓reduceIte, reduceIte, reduceCtorEq, Y1, Y2, Y3, Y4, Y5, Y6, Y7, Y8, Y9, YA, zA, wN]
    have hO : mulI a b (O, i) := ⟨g1, g2, g3, g4, g5⟩
    refine run_loop (fun p : List Int × Int × Nat => ⟨14, [47, 48, 49, 54, 55, 56], [.any, .any, .ref 0 0 0, .ref 1 0 0, .ref 2 0 0, ints a, ints b, .osl 3 0 1 0 (a.length + b.length), I i, I (dg a i), I p.2.1, .any, .any, .any],
      [(54, ints b), (55, I b.length), (56, I p.2.2), (47, ints a), (48, I a.length), (49, I i)], [.row 0 2 (ofL [.bool sx, ints a]), .row 0 2 (ofL [.bool sy, ints b]), .row 0 2 (ofL [.bool false, .sl 0 0 (fun _ => .any) true]), .row 0 (a.length + b.length) (slF I 0 p.1)]⟩)
      (mulJ a b O i) (fun p => b.length - p.2.2) (O, 0, 0) ⟨Nat.zero_le _, g2, g3, ⟨by simp, by simp⟩, g4, by simp [val]⟩ (sub_mk rfl (by simp [subL, ints, sl1, I]) (by simp [subT, look, ints, sl1, I]) (by simp [ints, sl1])) ?_
    rintro ⟨O', c, k⟩ hJ next2
    obtain ⟨j1, j2, j3, j4, j5, j6⟩ := id hJ
    simp only at j1 j2 j3 j4 j5 j6
    have w2 := wj k (by omega)
    by_cases hk : k < b.length
    · obtain ⟨v0, v1, hst⟩ := mulJ_step (a := a) (b := b) (O := O) (i := i) (O' := O') (c := c) (k := k) ha hb hi hk hJ rfl
      have o1 := dig_at j3 (i + k)
      have m1 := digt_mul (dg_dig ha i) (dg_dig hb k)
      have eB : b.getD k 0 = dg b k := rfl
      have f1 : ((k : Int) < b.length) = True := eq_true (by omega)
      have f2 : (k < b.length) = True := eq_true hk
      have f3 : IntKind.i64.wrap ((i : Int) + k) = ((i + k : Nat) : Int) := by rw [IntKind.wrap_i64]; omega
      have f4 : (i + k < a.length + b.length) = True := eq_true (by omega)
      have f5 : (i + k + 1 ≤ a.length + b.length) = True := eq_true (by omega)
      unfold digt at o1 j4
      have hU : ∀ x : Int, upd (slF I 0 O') (i + k) (.int .i64 x) = slF I 0 (O'.set (i + k) x) := fun x => upd_I _ _ _ (by omega)
      have q1 : IntKind.i64.wrap (dg a i * dg b k) = dg a i * dg b k := by rw [IntKind.wrap_i64]; omega
      have q2 : IntKind.i64.wrap (O'.getD (i + k) 0 + dg a i * dg b k) = O'.getD (i + k) 0 + dg a i * dg b k := by rw [IntKind.wrap_i64]; omega
      have q3 : IntKind.i64.wrap (O'.getD (i + k) 0 + dg a i * dg b k + c) = O'.getD (i + k) 0 + dg a i * dg b k + c := by rw [IntKind.wrap_i64]; omega
      have q4 : IntKind.i64.wrap ((O'.getD (i + k) 0 + dg a i * dg b k + c).tdiv 1000000000) = (O'.getD (i + k) 0 + dg a i * dg b k + c) / 1000000000 := by
        rw [Int.tdiv_eq_ediv_of_nonneg v0, IntKind.wrap_i64]; omega
      have q5 : IntKind.i64.wrap ((O'.getD (i + k) 0 + dg a i * dg b k + c) / 1000000000 * 1000000000) = (O'.getD (i + k) 0 + dg a i * dg b k + c) / 1000000000 * 1000000000 := by
        rw [IntKind.wrap_i64]; omega
      have q6 : IntKind.i64.wrap (O'.getD (i + k) 0 + dg a i * dg b k + c - (O'.getD (i + k) 0 + dg a i * dg b k + c) / 1000000000 * 1000000000) = O'.getD (i + k) 0 + dg a i * dg b k + c - (O'.getD (i + k) 0 + dg a i * dg b k + c) / 1000000000 * 1000000000 := by
        rw [IntKind.wrap_i64]; omega
      refine vc_soundN 1000 ?_
      simp (config := { maxSteps := 2000000 }) only [w2, f1, f2, f3, f4, f5, eB, q1, q2, q3, q4, q5, q6, hU, Int.toNat_natCast, Int.reduceEq, ↓wPre, wA, ↓reduceIte, reduceIte, reduceCtorEq, Y1, Y2, Y3, Y4, Y5, Y6, Y7, Y8, Y9, YA, zA, wN]
      exact next2 _ _ hst (by simp only; omega) (sub_mk rfl (by simp [subL, ints, sl1, I]) (by simp [subT, look, ints, sl1, I]) (by simp [ints, sl1]))
    · obtain rfl : k = b.length := by omega
      have f3 : IntKind.i64.wrap ((i : Int) + b.length) = ((i + b.length : Nat) : Int) := by rw [IntKind.wrap_i64]; omega
      have f4 : (i + b.length < a.length + b.length) = True := eq_true (by omega)
      have f5 : (i + b.length + 1 ≤ a.length + b.length) = True := eq_true (by omega)
      have hU : ∀ x : Int, upd (slF I 0 O') (i + b.length) (.int .i64 x) = slF I 0 (O'.set (i + b.length) x) := fun x => upd_I _ _ _ (by omega)
      refine vc_soundN 1000 ?_
      simp (config := { maxSteps := 2000000 }) only [w1, w2, f3, f4, f5, hU, Int.toNat_natCast, Int.reduceEq, Int.lt_irrefl, ↓wPre, wA, ↓reduceIte, reduceIte, reduceCtorEq, Y1, Y2, Y3, Y4, Y5, Y6, Y7, Y8, Y9, YA, zA, wN]
      exact next _ _ (mulI_step hi hO hJ) (by simp only; omega) (sub_mk rfl (by simp [subL, ints, sl1, I]) (by simp [subT, look, ints, sl1, I]) (by simp [ints, sl1]))
  · obtain rfl : i = a.length := by omega
    rw [List.take_length] at g5
    have c := of_z (sx != sy) O g3 (by omega)
    rw [g5, ← hR] at c
    have e5 : (!sx == sy) = (sx != sy) := by cases sx <;> cases sy <;> rfl
    have hrow : Sub (envP Tryz.prog Tryz.f144 [] [] R).base (⟨14, [47, 48, 49, 54, 55, 56], [.any, .any, .ref 0 0 0, .ref 1 0 0, .ref 2 0 0, ints a, ints b, .osl 3 0 1 0 (a.length + b.length), .any, .any, .any, .any, .any, .any],
        [(47, ints a), (48, I a.length), (49, I a.length)], [.row 0 2 (ofL [.bool sx, ints a]), .row 0 2 (ofL [.bool sy, ints b]), .row 0 2 (ofL [.bool false, .sl 0 0 (fun _ => .any) true]), .row 0 (a.length + b.length) (slF I 0 O)]⟩)
        ⟨14, [47, 48, 49, 54, 55, 56], [.any, .any, .ref 0 0 0, .ref 1 0 0, .ref 2 0 0, ints a, ints b, ints O, .any, .any, .any, .any, .any, .any],
        [(47, ints a), (48, I a.length), (49, I a.length)], [.row 0 2 (ofL [.bool sx, ints a]), .row 0 2 (ofL [.bool sy, ints b]), .row 0 2 (ofL [.bool false, .sl 0 0 (fun _ => .any) true]), .con 0 O.length (slF I 0 O)]⟩ := by
      rw [← g2]
      exact sub_freeze 3 7 rfl rfl (by simp)
    refine Run.sub ?_ hrow
    refine vc_soundN 1000 ?_
    simp (config := { maxSteps := 2000000 }) only [Int.lt_irrefl, Nat.lt_irrefl, e5, ↓wPre, wA, ↓reduceIte, reduceIte, reduceCtorEq, Y1, Y2, Y3, Y4, Y5, Y6, Y7, Y8, Y9, YA, zA, wN]
    refine call_fn c rfl ?_
    simp only [hR, ↓wPre, wA, ↓reduceIte, reduceIte, reduceCtorEq, Y1, Y2, Y3, Y4, Y5, Y6, Y7, Y8, Y9, YA, zA, wN]
    exact retRefE rfl ldk26 rfl rfl rfl hR sR ⟨Weak.rfl' _, Weak.rfl' _, trivial⟩
theorem mul_fn (x y : Int) (hx : bl x < room) (hy : bl y < room) : Fn Tryz.prog 144 [zA x, zA y] (zA (x * y)) := by
  have h := mul_gen (decide (x < 0)) (decide (y < 0)) _ _ (digs_dig x.natAbs) (digs_dig y.natAbs) hx hy
  have e : sgn (decide (x < 0) != decide (y < 0)) (val (digs x.natAbs) * val (digs y.natAbs)) = x * y := by
    rw [digs_val, digs_val]
    have hx' := sgn_abs x
    have hy' := sgn_abs y
    conv => rhs; rw [← hx', ← hy']
    generalize (x.natAbs : Int) = p
    generalize (y.natAbs : Int) = q
    unfold sgn
    by_cases h1 : x < 0 <;> by_cases h2 : y < 0 <;> simp [h1, h2, Int.neg_mul, Int.mul_neg]
  rw [e] at h
  exact h
end
end Go.Ab.N
namespace Go.Ab.N
open Go Go.RowKit Go.Proofs
noncomputable section
set_option maxRecDepth 10000
set_option maxHeartbeats 2000000
open Classical

/-- Halfway through a division by a digit: the digits from k on are known. -/
def quoM (a : List Int) (b : Int) (k : Nat) : List Int := tab (fun j => if k ≤ j then quoD a b j else 0) a.length
theorem quoM_len (a : List Int) (b : Int) (k : Nat) : (quoM a b k).length = a.length := tab_len _ _
theorem quoM_set (a : List Int) (b : Int) (k : Nat) (h : k < a.length) {x : Int} (hx : x = quoD a b k) : (quoM a b (k + 1)).set k x = quoM a b k := by
  unfold quoM
  rw [tab_setI _ _ _ _ h]
  refine tab_congr fun q _ => ?_
  by_cases e : q = k
  · subst e; rw [if_pos rfl, if_pos (Nat.le_refl _), hx]
  · rw [if_neg e]
    by_cases h1 : k ≤ q
    · rw [if_pos h1, if_pos (by omega)]
    · rw [if_neg h1, if_neg (by omega)]
theorem quoM_zero (a : List Int) (b : Int) : quoM a b 0 = tab (quoD a b) a.length := tab_congr fun q _ => if_pos (Nat.zero_le _)
theorem short_fn (a : List Int) (b : Int) (ha : dig a) (hb : digt b) (hb0 : b ≠ 0) (la : a.length < 10000000000000) :
    Fn Tryz.prog 253 [ints a, I b] (.tup [ints (tab (quoD a b) a.length), I (val a % b)]) := by
  obtain ⟨Q, hQ⟩ : ∃ Q, Q = ints (tab (quoD a b) a.length) := ⟨_, rfl⟩
  have sQ : Settled Q := hQ ▸ settled_ints _
  rw [← hQ]
  unfold digt at hb
  refine Fn.intro (fn := Tryz.f253) Tryz.call253 Tryz.func253 rfl mixed 10 [] [] [] (by kernel_rfl) (Nat.le_of_ble_eq_true rfl) (by simp [settled_ints, settled_I, settled_fn0, settled_intss, settled_bool, settled_nil, settled_zA, settled_ofA, settled_int]) (vc_soundN 1000 ?_); simp (config := { maxSteps := 2000000 }) only [AS.start, ↓wPre, wA, ↓reduceIte, reduceIte, reduceCtorEq, Y1, Y2, Y3, Y4, Y5, Y6, Y7, Y8, Y9, YA, zA, wN]
  refine ⟨⟨by omega, by omega⟩, ?_⟩
  have w0 : IntKind.i64.wrap ((a.length : Int) - 1) = (a.length : Int) - 1 := by rw [IntKind.wrap_i64]; omega
  rw [w0]
  refine run_loop (fun k : Nat => ⟨10, [], [ints a, I b, .any, .any, .sl 0 0 (fun _ => .any) true, I 0, .osl 0 0 1 0 a.length, I (remD a b k), I ((k : Int) - 1), .any],
    [], [.row 0 a.length (slF I 0 (quoM a b k))]⟩) (fun k => k ≤ a.length) (fun k => k) a.length (Nat.le_refl _)
    ?_ ?_
  · refine (sub_rowf 0 a.length (slF I 0 (quoM a b a.length)) rfl (Nat.le_refl _) ?_).trans (sub_mk rfl ?_ ?_ ?_)
    · intro j hj
      have : (quoM a b a.length).getD j 0 = 0 := by unfold quoM; rw [tab_at _ _ _ hj, if_neg (by omega)]
      rw [slF_at, this]; rfl
    · simp [subL, ints, sl1, I, remD_end]
    · simp [subT]
    · rfl
  intro k hk next
  cases k with
  | zero =>
    have e1 : ((0 : Int) ≤ 0 - 1) = False := eq_false (by omega)
    refine vc_soundN 1000 ?_
    simp (config := { maxSteps := 2000000 }) only [e1, ↓wPre, wA, ↓reduceIte, reduceIte, reduceCtorEq, Y1, Y2, Y3, Y4, Y5, Y6, Y7, Y8, Y9, YA, zA, wN]
    have e0 : remD a b 0 = val a % b := by unfold remD; rw [List.drop_zero]
    rw [e0]
    refine ret2 rfl (sees_tup ⟨?_, sees_of (settled_I _) rfl, trivial⟩)
    rw [hQ]
    exact sees_rowE settled_I rfl rfl (tab_len _ _).symm (by rw [quoM_zero]) (Nat.le_of_eq (tab_len _ _))
  | succ k =>
    have e1 : ((k + 1 : Nat) : Int) - 1 = (k : Int) := by omega
    have w1 : IntKind.i64.wrap ((k : Int) - 1) = (k : Int) - 1 := by rw [IntKind.wrap_i64]; omega
    have e2 : ((k : Int) < a.length) = True := eq_true (by omega)
    have e3 : (k < a.length) = True := eq_true (by omega)
    have e4 : (b = 0) = False := eq_false hb0
    have r1 : 0 ≤ remD a b (k + 1) := Int.emod_nonneg _ hb0
    have r2 : remD a b (k + 1) < b := Int.emod_lt_of_pos _ (by omega)
    have d1 := dg_dig ha k
    unfold digt at d1
    have eA : a.getD k 0 = dg a k := rfl
    have q1 : IntKind.i64.wrap (remD a b (k + 1) * 1000000000) = remD a b (k + 1) * 1000000000 := by rw [IntKind.wrap_i64]; omega
    have q2 : IntKind.i64.wrap (remD a b (k + 1) * 1000000000 + dg a k) = remD a b (k + 1) * 1000000000 + dg a k := by rw [IntKind.wrap_i64]; omega
    have v0 : 0 ≤ remD a b (k + 1) * 1000000000 + dg a k := by omega
    have d2 := quoD_dig (a := a) (b := b) ha (by omega) k
    have eq : quoD a b k = (remD a b (k + 1) * 1000000000 + dg a k) / b := rfl
    unfold digt at d2
    have q3 : IntKind.i64.wrap ((remD a b (k + 1) * 1000000000 + dg a k).tdiv b) = quoD a b k := by
      rw [Int.tdiv_eq_ediv_of_nonneg v0, ← eq, IntKind.wrap_i64]; omega
    have q4 : (remD a b (k + 1) * 1000000000 + dg a k).tmod b = remD a b k := by
      rw [Int.tmod_eq_emod_of_nonneg v0, remD_step a b k (by omega)]; rfl
    have hU : upd (slF I 0 (quoM a b (k + 1))) k (.int .i64 (quoD a b k)) = slF I 0 (quoM a b k) := by
      rw [upd_I _ _ _ (by rw [quoM_len]; omega), quoM_set a b k (by omega) rfl]
    refine vc_soundN 1000 ?_
    simp (config := { maxSteps := 2000000 }) only [e1, w1, e2, e3, e4, eA, q1, q2, q3, q4, hU, ↓wPre, wA, ↓reduceIte, reduceIte, reduceCtorEq, Y1, Y2, Y3, Y4, Y5, Y6, Y7, Y8, Y9, YA, zA, wN]
    exact ⟨by omega, next k _ (by omega) (by omega) (sub_mk rfl (by simp [subL, ints, sl1, I]) (by simp [subT]) rfl)⟩

/-- Halfway through a product with a digit. -/
def scaleM (a : List Int) (m : Int) (k : Nat) : List Int := tab (fun j => if j < k then mulO (dg a) m j else 0) (a.length + 1)
theorem scaleM_len (a : List Int) (m : Int) (k : Nat) : (scaleM a m k).length = a.length + 1 := tab_len _ _
def scaleF (a : List Int) (m : Int) : List Int := tab (mulO (dg a) m) a.length ++ [mulC (dg a) m a.length]
theorem scaleF_len (a : List Int) (m : Int) : (scaleF a m).length = a.length + 1 := by simp [scaleF, tab_len]
theorem scaleF_val (a : List Int) (m : Int) : val (scaleF a m) = val a * m := by
  unfold scaleF
  rw [val_snoc, tab_len, val_tab, mul_sum, sm_dg a _ (Nat.le_refl _)]
theorem scaleF_dig {a : List Int} {m : Int} (ha : dig a) (hm : digt m) : dig (scaleF a m) := by
  unfold scaleF
  exact dig_app.2 ⟨dig_tab fun i _ => mulO_dig (dg_dig ha) hm i, dig_cons.2 ⟨mulC_dig (dg_dig ha) hm _, dig_nil⟩⟩
theorem scaleM_set (a : List Int) (m : Int) (k : Nat) (h : k < a.length) {x : Int} (hx : x = mulO (dg a) m k) : (scaleM a m k).set k x = scaleM a m (k + 1) := by
  unfold scaleM
  rw [tab_setI _ _ _ _ (by omega)]
  refine tab_congr fun q _ => ?_
  by_cases e : q = k
  · subst e; rw [if_pos rfl, if_pos (by omega), hx]
  · rw [if_neg e]
    by_cases h1 : q < k
    · rw [if_pos h1, if_pos (by omega)]
    · rw [if_neg h1, if_neg (by omega)]
theorem scaleM_end (a : List Int) (m : Int) : (scaleM a m a.length).set a.length (mulC (dg a) m a.length) = scaleF a m := by
  unfold scaleM scaleF
  rw [tab_setI _ _ _ _ (by omega), tab_succ]
  congr 1
  · refine tab_congr fun q hq => ?_
    rw [if_neg (by omega), if_pos hq]
  · simp
theorem scaled_fn (a : List Int) (m : Int) (ha : dig a) (hm : digt m) (la : a.length < 10000000000) :
    Fn Tryz.prog 268 [ints a, I m] (ints (scaleF a m)) := by
  have w0 : IntKind.i64.wrap ((a.length : Int) + 1) = ((a.length + 1 : Nat) : Int) := by rw [IntKind.wrap_i64]; omega
  refine Fn.intro (fn := Tryz.f268) Tryz.call268 Tryz.func268 rfl mixed 10 [14, 15, 16] [] [] (by kernel_rfl) (Nat.le_of_ble_eq_true rfl) (by simp [settled_ints, settled_I]) (vc_soundN 1000 ?_)
  simp (config := { maxSteps := 2000000 }) only [AS.start, w0, Int.toNat_natCast, ↓wPre, wA, ↓reduceIte, reduceIte, reduceCtorEq, Y1, Y2, Y3, Y4, Y5, Y6, Y7, Y8, Y9, YA, zA, wN]
  refine ⟨⟨by omega, by omega⟩, ?_⟩
  refine run_loop (fun k : Nat => ⟨10, [14, 15, 16], [ints a, I m, .any, .any, .sl 0 0 (fun _ => .any) true, .osl 0 0 1 0 (a.length + 1), I (mulC (dg a) m k), .any, .any, .any],
    [(14, ints a), (15, I a.length), (16, I k)], [.row 0 (a.length + 1) (slF I 0 (scaleM a m k))]⟩) (fun k => k ≤ a.length) (fun k => a.length - k) 0 (by omega)
    ?_ ?_
  · refine (sub_rowf 0 (a.length + 1) (slF I 0 (scaleM a m 0)) rfl (Nat.le_refl _) ?_).trans (sub_mk rfl ?_ ?_ ?_)
    · intro j hj
      have : (scaleM a m 0).getD j 0 = 0 := by unfold scaleM; rw [tab_at _ _ _ hj, if_neg (by omega)]
      rw [slF_at, this]; rfl
    · simp [subL, ints, sl1, I, mulC]
    · simp [subT, look, ints, sl1, I]
    · rfl
  intro k hk next
  have w1 := wj k (by omega)
  have c1 := mulC_dig (dg_dig ha) hm k
  have m1 := digt_mul (dg_dig ha k) hm
  have eA : a.getD k 0 = dg a k := rfl
  unfold digt at c1
  have v0 : 0 ≤ dg a k * m + mulC (dg a) m k := by omega
  have eC : (dg a k * m + mulC (dg a) m k) / 1000000000 = mulC (dg a) m (k + 1) := rfl
  have eO : (dg a k * m + mulC (dg a) m k) % 1000000000 = mulO (dg a) m k := rfl
  have c2 := mulC_dig (dg_dig ha) hm (k + 1)
  unfold digt at c2
  have q1 : IntKind.i64.wrap (dg a k * m) = dg a k * m := by rw [IntKind.wrap_i64]; omega
  have q2 : IntKind.i64.wrap (dg a k * m + mulC (dg a) m k) = dg a k * m + mulC (dg a) m k := by rw [IntKind.wrap_i64]; omega
  have q3 : IntKind.i64.wrap ((dg a k * m + mulC (dg a) m k).tdiv 1000000000) = mulC (dg a) m (k + 1) := by
    rw [Int.tdiv_eq_ediv_of_nonneg v0, eC, IntKind.wrap_i64]; omega
  have q4 : (dg a k * m + mulC (dg a) m k).tmod 1000000000 = mulO (dg a) m k := by
    rw [Int.tmod_eq_emod_of_nonneg v0, eO]
  by_cases hk2 : k < a.length
  · have e1 : ((k : Int) < a.length) = True := eq_true (by omega)
    have e2 : (k < a.length) = True := eq_true hk2
    have e3 : (k < a.length + 1) = True := eq_true (by omega)
    have e4 : (k + 1 ≤ a.length + 1) = True := eq_true (by omega)
    have e5 : (k ≤ a.length) = True := eq_true (by omega)
    have hU : upd (slF I 0 (scaleM a m k)) k (.int .i64 (mulO (dg a) m k)) = slF I 0 (scaleM a m (k + 1)) := by
      rw [upd_I _ _ _ (by rw [scaleM_len]; omega), scaleM_set a m k hk2 rfl]
    refine vc_soundN 1000 ?_
    simp (config := { maxSteps := 2000000 }) only [w1, e1, e2, e3, e4, e5, eA, q1, q2, q3, q4, hU, Int.reduceEq, ↓wPre, wA, ↓reduceIte, reduceIte, reduceCtorEq, Y1, Y2, Y3, Y4, Y5, Y6, Y7, Y8, Y9, YA, zA, wN]
    exact next (k + 1) _ (by omega) (by omega) (sub_mk rfl (by simp [subL, ints, sl1, I]) (by simp [subT, look, ints, sl1, I]) rfl)
  · obtain rfl : k = a.length := by omega
    have hU : upd (slF I 0 (scaleM a m a.length)) a.length (.int .i64 (mulC (dg a) m a.length)) = slF I 0 (scaleF a m) := by
      rw [upd_I _ _ _ (by rw [scaleM_len]; omega), scaleM_end]
    have e3 : (a.length < a.length + 1) = True := eq_true (by omega)
    have e4 : (a.length + 1 ≤ a.length + 1) = True := eq_true (by omega)
    refine vc_soundN 1000 ?_
    simp (config := { maxSteps := 2000000 }) only [w1, e3, e4, hU, Int.lt_irrefl, Nat.lt_irrefl, ↓wPre, wA, ↓reduceIte, reduceIte, reduceCtorEq, Y1, Y2, Y3, Y4, Y5, Y6, Y7, Y8, Y9, YA, zA, wN]
    exact ret1 rfl (sees_rowE settled_I rfl rfl (scaleF_len _ _).symm rfl (Nat.le_of_eq (scaleF_len _ _)))
theorem scaled_own (a : List Int) (m : Int) (ha : dig a) (hm : digt m) (la : a.length < 10000000000) :
    HCall Tryz.prog 268 [ints a, I m] [] (.osl 0 0 1 0 (a.length + 1)) [.row 0 (a.length + 1) (slF I 0 (scaleF a m))] := by
  have w0 : IntKind.i64.wrap ((a.length : Int) + 1) = ((a.length + 1 : Nat) : Int) := by rw [IntKind.wrap_i64]; omega
  refine HCall.intro (fn := Tryz.f268) Tryz.call268 Tryz.func268 rfl mixed 10 [14, 15, 16] [] [] (by kernel_rfl) (Nat.le_of_ble_eq_true rfl) (vc_soundN 1000 ?_)
  simp (config := { maxSteps := 2000000 }) only [AS.start, w0, Int.toNat_natCast, ↓wPre, wA, ↓reduceIte, reduceIte, reduceCtorEq, Y1, Y2, Y3, Y4, Y5, Y6, Y7, Y8, Y9, YA, zA, wN]
  refine ⟨⟨by omega, by omega⟩, ?_⟩
  refine run_loop (fun k : Nat => ⟨10, [14, 15, 16], [ints a, I m, .any, .any, .sl 0 0 (fun _ => .any) true, .osl 0 0 1 0 (a.length + 1), I (mulC (dg a) m k), .any, .any, .any],
    [(14, ints a), (15, I a.length), (16, I k)], [.row 0 (a.length + 1) (slF I 0 (scaleM a m k))]⟩) (fun k => k ≤ a.length) (fun k => a.length - k) 0 (by omega)
    ?_ ?_
  · refine (sub_rowf 0 (a.length + 1) (slF I 0 (scaleM a m 0)) rfl (Nat.le_refl _) ?_).trans (sub_mk rfl ?_ ?_ ?_)
    · intro j hj
      have : (scaleM a m 0).getD j 0 = 0 := by unfold scaleM; rw [tab_at _ _ _ hj, if_neg (by omega)]
      rw [slF_at, this]; rfl
    · simp [subL, ints, sl1, I, mulC]
    · simp [subT, look, ints, sl1, I]
    · rfl
  intro k hk next
  have w1 := wj k (by omega)
  have c1 := mulC_dig (dg_dig ha) hm k
  have m1 := digt_mul (dg_dig ha k) hm
  have eA : a.getD k 0 = dg a k := rfl
  unfold digt at c1
  have v0 : 0 ≤ dg a k * m + mulC (dg a) m k := by omega
  have eC : (dg a k * m + mulC (dg a) m k) / 1000000000 = mulC (dg a) m (k + 1) := rfl
  have eO : (dg a k * m + mulC (dg a) m k) % 1000000000 = mulO (dg a) m k := rfl
  have c2 := mulC_dig (dg_dig ha) hm (k + 1)
  unfold digt at c2
  have q1 : IntKind.i64.wrap (dg a k * m) = dg a k * m := by rw [IntKind.wrap_i64]; omega
  have q2 : IntKind.i64.wrap (dg a k * m + mulC (dg a) m k) = dg a k * m + mulC (dg a) m k := by rw [IntKind.wrap_i64]; omega
  have q3 : IntKind.i64.wrap ((dg a k * m + mulC (dg a) m k).tdiv 1000000000) = mulC (dg a) m (k + 1) := by
    rw [Int.tdiv_eq_ediv_of_nonneg v0, eC, IntKind.wrap_i64]; omega
  have q4 : (dg a k * m + mulC (dg a) m k).tmod 1000000000 = mulO (dg a) m k := by
    rw [Int.tmod_eq_emod_of_nonneg v0, eO]
  by_cases hk2 : k < a.length
  · have e1 : ((k : Int) < a.length) = True := eq_true (by omega)
    have e2 : (k < a.length) = True := eq_true hk2
    have e3 : (k < a.length + 1) = True := eq_true (by omega)
    have e4 : (k + 1 ≤ a.length + 1) = True := eq_true (by omega)
    have e5 : (k ≤ a.length) = True := eq_true (by omega)
    have hU : upd (slF I 0 (scaleM a m k)) k (.int .i64 (mulO (dg a) m k)) = slF I 0 (scaleM a m (k + 1)) := by
      rw [upd_I _ _ _ (by rw [scaleM_len]; omega), scaleM_set a m k hk2 rfl]
    refine vc_soundN 1000 ?_
    simp (config := { maxSteps := 2000000 }) only [w1, e1, e2, e3, e4, e5, eA, q1, q2, q3, q4, hU, Int.reduceEq, ↓wPre, wA, ↓reduceIte, reduceIte, reduceCtorEq, Y1, Y2, Y3, Y4, Y5, Y6, Y7, Y8, Y9, YA, zA, wN]
    exact next (k + 1) _ (by omega) (by omega) (sub_mk rfl (by simp [subL, ints, sl1, I]) (by simp [subT, look, ints, sl1, I]) rfl)
  · obtain rfl : k = a.length := by omega
    have hU : upd (slF I 0 (scaleM a m a.length)) a.length (.int .i64 (mulC (dg a) m a.length)) = slF I 0 (scaleF a m) := by
      rw [upd_I _ _ _ (by rw [scaleM_len]; omega), scaleM_end]
    have e3 : (a.length < a.length + 1) = True := eq_true (by omega)
    have e4 : (a.length + 1 ≤ a.length + 1) = True := eq_true (by omega)
    refine vc_soundN 1000 ?_
    simp (config := { maxSteps := 2000000 }) only [w1, e3, e4, hU, Int.lt_irrefl, Nat.lt_irrefl, ↓wPre, wA, ↓reduceIte, reduceIte, reduceCtorEq, Y1, Y2, Y3, Y4, Y5, Y6, Y7, Y8, Y9, YA, zA, wN]
    exact retH1 rfl rfl rfl
end
end Go.Ab.N
namespace Go.Ab.N
open Go.Ab
open Classical
noncomputable section

/-! ### The scale -/
theorem scale_top {b s : Int} (h1 : 1 ≤ b) (h2 : b < 1000000000) (hs : s = 1000000000 / (b + 1)) : 1 ≤ s ∧ s ≤ 500000000 ∧ 500000000 ≤ b * s ∧ (b + 1) * s ≤ 1000000000 := by
  have e := Int.mul_ediv_add_emod 1000000000 (b + 1)
  have r1 := Int.emod_nonneg 1000000000 (show b + 1 ≠ 0 by omega)
  have r2 := Int.emod_lt_of_pos 1000000000 (show 0 < b + 1 by omega)
  rw [← hs] at e
  generalize (1000000000 : Int) % (b + 1) = r at *
  have s1 : 1 ≤ s := by
    apply Classical.byContradiction
    intro h
    have : (b + 1) * s ≤ (b + 1) * 0 := Int.mul_le_mul_of_nonneg_left (by omega) (by omega)
    omega
  have s2 : s ≤ 500000000 := by
    apply Classical.byContradiction
    intro h
    have : 2 * s ≤ (b + 1) * s := Int.mul_le_mul_of_nonneg_right (by omega) (by omega)
    omega
  refine ⟨s1, s2, ?_, by omega⟩
  apply Classical.byContradiction
  intro h
  have e2 : (b + 1) * s = b * s + s := by rw [Int.add_mul, Int.one_mul]
  by_cases hb : 500000000 ≤ b
  · have : b * 1 ≤ b * s := Int.mul_le_mul_of_nonneg_left s1 (by omega)
    omega
  · have h3 : 500000000 - b + 1 ≤ s := by omega
    have h4 : b * (500000000 - b + 1) ≤ b * s := Int.mul_le_mul_of_nonneg_left h3 (by omega)
    have h5 : 0 ≤ (b - 1) * (500000000 - b) := Int.mul_nonneg (by omega) (by omega)
    have h6 : b * (500000000 - b + 1) = (b - 1) * (500000000 - b) + 500000000 := by grind
    omega

/-! ### The guess -/
theorem guess_hi {W V T top g r v1 : Int} (hT : 0 ≤ T) (hr : r < v1) (ht : top = g * v1 + r) (hW : W < (top + 1) * T) (hV : v1 * T ≤ V) (hg : 0 ≤ g) : W < (g + 1) * V := by
  have h1 : (top + 1) * T ≤ ((g + 1) * v1) * T := Int.mul_le_mul_of_nonneg_right (by rw [Int.add_mul]; omega) hT
  have h2 : (g + 1) * (v1 * T) ≤ (g + 1) * V := Int.mul_le_mul_of_nonneg_left hV (by omega)
  rw [Int.mul_assoc] at h1
  omega
theorem guess_down {W V P x t g : Int} (hP : 0 ≤ P) (hx : t + 1 ≤ g * x) (hW : W < (t + 1) * P) (hV : x * P ≤ V) (hg : 0 ≤ g) : W < g * V := by
  have h1 : (t + 1) * P ≤ (g * x) * P := Int.mul_le_mul_of_nonneg_right hx hP
  have h2 : g * (x * P) ≤ g * V := Int.mul_le_mul_of_nonneg_left hV hg
  rw [Int.mul_assoc] at h1
  omega
theorem guess_ok {W V P x t g : Int} (hP : 0 < P) (hx : g * x ≤ t) (hW : t * P ≤ W) (hV : V < (x + 1) * P) (hg : 0 ≤ g) (hgB : g ≤ 1000000000) (hB : 1000000000 * P ≤ V) : g * V < W + V := by
  have h1 : g * V ≤ g * ((x + 1) * P - 1) := Int.mul_le_mul_of_nonneg_left (by omega) hg
  have h2 : (g * x) * P ≤ t * P := Int.mul_le_mul_of_nonneg_right hx (by omega)
  have h3 : g * ((x + 1) * P - 1) = (g * x) * P + g * (P - 1) := by grind
  have h4 : g * (P - 1) ≤ 1000000000 * (P - 1) := Int.mul_le_mul_of_nonneg_right hgB (by omega)
  omega

/-! ### A row of differences -/
def subJ (u v : List Int) (g : Int) (j n : Nat) (p : List Int × Int × Nat) : Prop :=
  p.2.2 ≤ n ∧ p.1.length = u.length ∧ dig p.1 ∧ 0 ≤ p.2.1 ∧ p.2.1 ≤ 1000000000 ∧ (∀ i, i < j ∨ j + p.2.2 ≤ i → p.1.getD i 0 = u.getD i 0) ∧ val p.1 - p.2.1 * pw (j + p.2.2) = val u - g * val (v.take p.2.2) * pw j
theorem subJ_step {u v u' : List Int} {g c : Int} {j n i : Nat} (hv : dig v) (hg0 : 0 ≤ g) (hg : g ≤ 1000000000) (hn : n ≤ v.length) (hj : j + n < u.length) (hi : i < n) (h : subJ u v g j n (u', c, i)) {w : Int} (hw : w = u'.getD (i + j) 0 - g * dg v i - c) :
    -2000000000000000000 < w ∧ w < 1000000000 ∧ subJ u v g j n (u'.set (i + j) (w % 1000000000), -(w / 1000000000), i + 1) := by
  obtain ⟨h1, h2, h3, h4, h5, h6, h7⟩ := h
  simp only at h1 h2 h3 h4 h5 h6 h7
  have o1 := dig_at h3 (i + j)
  have d1 := dg_dig hv i
  unfold digt at o1 d1
  have m1 : 0 ≤ g * dg v i := Int.mul_nonneg hg0 d1.1
  have m2 : g * dg v i ≤ 1000000000 * dg v i := Int.mul_le_mul_of_nonneg_right hg d1.1
  refine ⟨by omega, by omega, by simp only; omega, by simp [h2], dig_set h3 _ ⟨by omega, by omega⟩, by simp only; omega, by simp only; omega, fun k hk => ?_, ?_⟩
  · simp only at hk ⊢
    rw [getD_setI _ _ _ _ (by omega), if_neg (by omega)]; exact h6 k (by omega)
  · simp only
    rw [val_set _ _ _ (by omega), val_take_succ v i (by omega), show j + (i + 1) = (j + i) + 1 by omega, show i + j = j + i by omega]
    rw [show i + j = j + i by omega] at hw
    have hd : dg v i = v.getD i 0 := rfl
    rw [← hd]
    have e := pw_add j i
    simp only [pw]
    rw [e] at h7 ⊢
    have e2 := Int.mul_ediv_add_emod w 1000000000
    generalize w / 1000000000 = q at *
    generalize w % 1000000000 = r at *
    generalize u'.getD (j + i) 0 = o at *
    generalize pw j = P at *
    generalize pw i = Q at *
    generalize val (v.take i) = W at *
    grind
/-! ### A row of sums -/
def addJ (u v : List Int) (j n : Nat) (p : List Int × Int × Nat) : Prop :=
  p.2.2 ≤ n ∧ p.1.length = u.length ∧ (∀ i, i ≠ j + n → digt (p.1.getD i 0)) ∧ 0 ≤ p.2.1 ∧ p.2.1 ≤ 1 ∧ (∀ i, i < j ∨ j + p.2.2 ≤ i → p.1.getD i 0 = u.getD i 0) ∧ val p.1 + p.2.1 * pw (j + p.2.2) = val u + val (v.take p.2.2) * pw j
theorem addJ_step {u v u' : List Int} {c : Int} {j n i : Nat} (hv : dig v) (hn : n ≤ v.length) (hj : j + n < u.length) (hi : i < n) (h : addJ u v j n (u', c, i)) {w : Int} (hw : w = u'.getD (i + j) 0 + dg v i + c) :
    0 ≤ w ∧ w < 2000000000 ∧ addJ u v j n (u'.set (i + j) (w % 1000000000), w / 1000000000, i + 1) := by
  obtain ⟨h1, h2, h3, h4, h5, h6, h7⟩ := h
  simp only at h1 h2 h3 h4 h5 h6 h7
  have o1 := h3 (i + j) (by omega)
  have d1 := dg_dig hv i
  unfold digt at o1 d1
  refine ⟨by omega, by omega, by simp only; omega, by simp [h2], fun k hk => ?_, by simp only; omega, by simp only; omega, fun k hk => ?_, ?_⟩
  · simp only
    rw [getD_setI _ _ _ _ (by omega)]
    split
    · exact ⟨by omega, by omega⟩
    · exact h3 k hk
  · simp only at hk ⊢
    rw [getD_setI _ _ _ _ (by omega), if_neg (by omega)]; exact h6 k (by omega)
  · simp only
    rw [val_set _ _ _ (by omega), val_take_succ v i (by omega), show j + (i + 1) = (j + i) + 1 by omega, show i + j = j + i by omega]
    rw [show i + j = j + i by omega] at hw
    have hd : dg v i = v.getD i 0 := rfl
    rw [← hd]
    have e := pw_add j i
    simp only [pw]
    rw [e] at h7 ⊢
    have e2 := Int.mul_ediv_add_emod w 1000000000
    generalize w / 1000000000 = q at *
    generalize w % 1000000000 = r at *
    generalize u'.getD (j + i) 0 = o at *
    generalize pw j = P at *
    generalize pw i = Q at *
    generalize val (v.take i) = W at *
    grind
end
end Go.Ab.N
