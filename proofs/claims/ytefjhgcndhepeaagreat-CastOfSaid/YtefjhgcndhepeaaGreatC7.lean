/- Contracts of functions of these chapters, for every argument that fits, and what they need. -/
import Derived.Test.YtefjhgcndhepeaaGreatC6
import Derived.Test.YtefjhgcndhepeaaGreatAb4
set_option linter.unusedSimpArgs false
set_option linter.unusedVariables false
open Nat renaming reducePow → Y1, reduceLT → Y2, reduceLeDiff → Y3, reduceEqDiff → Y4, reduceAdd → Y5, reduceMul → Y6, reduceSub → Y7, reduceBEq → Y8, reduceDiv → Y9, reduceMod → YA
namespace Go.Ab.N
open Go Go.RowKit Go.Proofs
noncomputable section
set_option maxRecDepth 10000
set_option maxHeartbeats 2000000
open Classical

/-! ### Vectors -/
structure V2 where
  x : Rat
  y : Rat
def vC (v : V2) : List AV := [.bool (decide (v.x.num < 0)), ints (digs v.x.num.natAbs), .bool false, ints (digs (qd v.x)), .bool (decide (v.y.num < 0)), ints (digs v.y.num.natAbs), .bool false, ints (digs (qd v.y))]
def vA (v : V2) : AV := .agg (vC v)
theorem settled_vA (v : V2) : Settled (vA v) := settled_agg (by simp [vC, settled_ints, settled_bool])
def vb (v : V2) : Nat := max (qb v.x) (qb v.y)
theorem vb_x (v : V2) : qb v.x ≤ vb v := Nat.le_max_left _ _
theorem vb_y (v : V2) : qb v.y ≤ vb v := Nat.le_max_right _ _
def V2.sub (a b : V2) : V2 := ⟨a.x - b.x, a.y - b.y⟩
def V2.add (a b : V2) : V2 := ⟨a.x + b.x, a.y + b.y⟩
def cross (a b : V2) : Rat := a.x * b.y - a.y * b.x
def dot (a b : V2) : Rat := a.x * b.x + a.y * b.y
def side (a b c : V2) : Int := (cross (b.sub a) (c.sub a)).num.sign
theorem vb_sub (a b : V2) : vb (a.sub b) ≤ vb a + vb b + 1 := by
  have := qb_sub a.x b.x; have := qb_sub a.y b.y
  have := vb_x a; have := vb_x b; have := vb_y a; have := vb_y b
  unfold V2.sub
  show max (qb (a.x - b.x)) (qb (a.y - b.y)) ≤ _
  omega
theorem vb_add (a b : V2) : vb (a.add b) ≤ vb a + vb b + 1 := by
  have := qb_add a.x b.x; have := qb_add a.y b.y
  have := vb_x a; have := vb_x b; have := vb_y a; have := vb_y b
  unfold V2.add
  show max (qb (a.x + b.x)) (qb (a.y + b.y)) ≤ _
  omega
theorem qb_cross (a b : V2) : qb (cross a b) ≤ 2 * (vb a + vb b) + 1 := by
  have := qb_mul a.x b.y; have := qb_mul a.y b.x
  have := vb_x a; have := vb_x b; have := vb_y a; have := vb_y b
  have := qb_sub (a.x * b.y) (a.y * b.x)
  unfold cross; omega
theorem qb_dot (a b : V2) : qb (dot a b) ≤ 2 * (vb a + vb b) + 1 := by
  have := qb_mul a.x b.x; have := qb_mul a.y b.y
  have := vb_x a; have := vb_x b; have := vb_y a; have := vb_y b
  have := qb_add (a.x * b.x) (a.y * b.y)
  unfold dot; omega
theorem qb_zero : qb 0 ≤ 1 := qb_int 0 1 (Nat.le_refl _) (by unfold bl; simp [digs_zero])
theorem weakIn_of {H : List AO} {a b : AV} (h : Weak a b) : WeakIn H a b := fun c v _ _ hv => h c v hv
theorem weak_empE {l : List Int} {f : Nat → AV} {t : Bool} (h : l = []) : Weak (.sl 0 0 f t) (ints l) := by rw [h]; exact weak_emp _ _
/-- The sum of two numbers. -/
theorem psum_fn (a b : Rat) (ha : qb a ≤ 10000000) (hb : qb b ≤ 10000000) : Fn Tryz.prog 117 [.sl 2 8 (ofL (qC a ++ qC b)) false] (qA (a + b)) := by
  obtain ⟨R, hR⟩ : ∃ R, R = qA (a + b) := ⟨_, rfl⟩
  have sR : Settled R := hR ▸ settled_qA _
  have q0 := qb_zero
  have c1 := radd_fn 0 a (by unfold rm; omega) (by unfold rm; omega)
  have c2 := radd_fn a b (by unfold rm; omega) (by unfold rm; omega)
  rw [Rat.zero_add] at c1
  rw [← hR] at c2 ⊢
  have hset : Settled (.sl 2 8 (ofL (qC a ++ qC b)) false) := settled_sl fun j hj => by
    unfold ofL qC
    match j, hj with
    | 0, _ => exact settled_bool _
    | 1, _ => exact settled_ints _
    | 2, _ => exact settled_bool _
    | 3, _ => exact settled_ints _
    | 4, _ => exact settled_bool _
    | 5, _ => exact settled_ints _
    | 6, _ => exact settled_bool _
    | 7, _ => exact settled_ints _
    | j + 8, h => omega
  have bel2 : Bel 2 (.sl 2 8 (ofL (qC a ++ qC b)) false) := bel_of_settled hset
  simp only [qC, List.cons_append, List.nil_append] at bel2
  have z1 : ((1 : Nat) : Int) = 1 := rfl
  have z2 : ((2 : Nat) : Int) = 2 := rfl
  have wr1 : IntKind.i64.wrap 1 = 1 := by rw [IntKind.wrap_i64]; omega
  have wr2 : IntKind.i64.wrap 2 = 2 := by rw [IntKind.wrap_i64]; omega
  refine Fn.intro (fn := Tryz.f117) Tryz.call117 Tryz.func117 rfl mixed 6 [6, 7, 8] [] [] (by kernel_rfl) (Nat.le_of_ble_eq_true rfl) (by simpa using hset) (vc_soundN 1000 ?_)
  simp only [AS.start, ↓wPre, wA, ↓reduceIte, reduceIte, reduceCtorEq, Y1, Y2, Y3, Y4, Y5, Y6, Y7, Y8, Y9, YA, zA, qA, qC, vA, vC, wN]
  refine run_loop (fun i : Nat => ⟨6, [6, 7, 8], [.any, .any, .ref 0 0 0, .ref 1 0 0, .any, .any], [(6, .sl 2 8 (ofL (qC a ++ qC b)) false), (7, I 2), (8, I i)],
    [.row 0 4 (ofL [.bool false, .sl 0 0 (fun _ => .any) true, .bool false, .sl 0 0 (fun _ => .any) true]), .row 0 4 (ofL (qC (if i = 0 then 0 else if i = 1 then a else a + b)))]⟩) (fun i => i ≤ 2) (fun i => 2 - i) 0 (by omega) ?_ ?_
  · refine (sub_roww 1 (ofL (qC 0)) rfl fun j hj => ?_).trans (sub_mk rfl (by simp [subL, qC, ints, sl1]) (by simp [subT, look, qC, ints, sl1, I]) (by simp))
    match j, hj with
    | 0, _ => exact weakIn_rfl _ _
    | 1, _ => exact weakIn_of (weak_empE (by rw [Rat.zero_num]; simp [digs_zero]))
    | 2, _ => exact weakIn_rfl _ _
    | 3, _ => exact weakIn_of (weak_empE (qd_one rfl))
    | j + 4, h => omega
  intro i hi next
  rcases (show i = 0 ∨ i = 1 ∨ i = 2 by omega) with rfl | rfl | rfl
  · refine vc_soundN 1000 ?_
    simp only [ite_true, z1, z2, wr1, wr2, Int.reduceLT, Int.reduceAdd, ↓wPre, wA, ↓reduceIte, reduceIte, reduceCtorEq, Y1, Y2, Y3, Y4, Y5, Y6, Y7, Y8, Y9, YA, zA, qA, qC, vA, vC, wN]
    refine call_fn c1 rfl ?_
    simp only [z1, z2, wr1, wr2, Int.reduceAdd, ↓wPre, wA, ↓reduceIte, reduceIte, reduceCtorEq, Y1, Y2, Y3, Y4, Y5, Y6, Y7, Y8, Y9, YA, zA, qA, qC, vA, vC, wN]
    exact next 1 _ (by omega) (by omega) (sub_cut (m := 2) (Nat.zero_le _) rfl (by simp [qC, subL, ints, sl1, I]) (by simp [qC, subT, look, ints, sl1, I]) (by simp [qC, ints, sl1, I]) (by simp [wBel]) (by simp [qC, wBel, bel2]) (by simp [qC, wBel]))
  · have e1 : ((1 : Nat) = 0) = False := eq_false (by omega)
    refine vc_soundN 1000 ?_
    simp only [e1, ite_true, ite_false, z1, z2, wr1, wr2, Int.reduceLT, Int.reduceAdd, ↓wPre, wA, ↓reduceIte, reduceIte, reduceCtorEq, Y1, Y2, Y3, Y4, Y5, Y6, Y7, Y8, Y9, YA, zA, qA, qC, vA, vC, wN]
    refine ⟨by omega, call_fn c2 rfl ?_⟩
    simp only [hR, z1, z2, wr1, wr2, Int.reduceAdd, ↓wPre, wA, ↓reduceIte, reduceIte, reduceCtorEq, Y1, Y2, Y3, Y4, Y5, Y6, Y7, Y8, Y9, YA, zA, qA, qC, vA, vC, wN]
    exact next 2 _ (by omega) (by omega) (sub_cut (m := 2) (Nat.zero_le _) rfl (by simp [qC, subL, ints, sl1, I]) (by simp [qC, subT, look, ints, sl1, I]) (by simp [qC, ints, sl1, I]) (by simp [wBel]) (by simp [qC, wBel, bel2]) (by simp [qC, wBel]))
  · have e1 : ((2 : Nat) = 0) = False := eq_false (by omega)
    have e2 : ((2 : Nat) = 1) = False := eq_false (by omega)
    refine vc_soundN 1000 ?_
    simp only [e1, e2, ite_false, z1, z2, wr1, wr2, Int.reduceLT, Int.reduceAdd, ↓wPre, wA, ↓reduceIte, reduceIte, reduceCtorEq, Y1, Y2, Y3, Y4, Y5, Y6, Y7, Y8, Y9, YA, zA, qA, qC, vA, vC, wN]
    exact retA rfl ldk28 rfl rfl rfl sR (hR.trans rfl)
def vm : Nat := 1000000
theorem retV {P : Program} {fn : Func} {str hcs : List Nat} {r : AV} {s : AS} {t u id ver n : Nat} {L : List AV} (hr : fn.results = #[.cell t u]) (hk : ldk P u = some (some n)) (hs : s.get t = .ref id ver 0)
    (ho : s.h[id]? = some (.row ver n (ofL L))) (hn : L.length = n) (hset : Settled r) (e : r = .agg L) : RetOk (envP P fn str hcs r) s := retRefE hr hk hs ho hn e hset (weakL_rfl L)
theorem psub_fn (a b : V2) (ha : vb a ≤ rm) (hb : vb b ≤ rm) : Fn Tryz.prog 44 [vA a, vA b] (vA (a.sub b)) := by
  obtain ⟨R, hR⟩ : ∃ R, R = vA (a.sub b) := ⟨_, rfl⟩
  have sR : Settled R := hR ▸ settled_vA _
  have := vb_x a; have := vb_x b; have := vb_y a; have := vb_y b
  have c1 := rsub_fn a.x b.x (by omega) (by omega)
  have c2 := rsub_fn a.y b.y (by omega) (by omega)
  rw [← hR]
  refine Fn.intro (fn := Tryz.f44) Tryz.call44 Tryz.func44 rfl mixed 5 [] [] [] (by kernel_rfl) (Nat.le_of_ble_eq_true rfl) (by simp [settled_ints, settled_I, settled_fn0, settled_intss, settled_bool, settled_nil, settled_zA, settled_qA, settled_vA, settled_zR, settled_ofA, settled_int]) (vc_soundN 1000 ?_); simp (config := { maxSteps := 2000000 }) only [AS.start, ↓wPre, wA, ↓reduceIte, reduceIte, reduceCtorEq, Y1, Y2, Y3, Y4, Y5, Y6, Y7, Y8, Y9, YA, zA, qA, qC, vA, vC, wN]
  refine call_fn c1 rfl ?_
  simp only [↓wPre, wA, ↓reduceIte, reduceIte, reduceCtorEq, Y1, Y2, Y3, Y4, Y5, Y6, Y7, Y8, Y9, YA, zA, qA, qC, vA, vC, wN]
  refine call_fn c2 rfl ?_
  simp only [↓wPre, wA, ↓reduceIte, reduceIte, reduceCtorEq, Y1, Y2, Y3, Y4, Y5, Y6, Y7, Y8, Y9, YA, zA, qA, qC, vA, vC, wN]
  exact retV rfl ldk50 rfl rfl rfl sR (hR.trans rfl)
theorem pof_fn (x y : Int) (hx : in64 x) (hy : in64 y) : Fn Tryz.prog 120 [I x, I y] (vA ⟨x, y⟩) := by
  have e : ∀ n : Int, Rat.divInt n 1 = (n : Rat) := fun n => by
    rw [show (1 : Int) = ((1 : Nat) : Int) from rfl, Rat.divInt_ofNat]
    have := Rat.mkRat_self (n : Rat)
    rwa [Rat.num_intCast, Rat.den_intCast] at this
  obtain ⟨R, hR⟩ : ∃ R, R = vA ⟨x, y⟩ := ⟨_, rfl⟩
  have sR : Settled R := hR ▸ settled_vA _
  have c1 := rof_fn x 1 hx ⟨by omega, by omega⟩
  have c2 := rof_fn y 1 hy ⟨by omega, by omega⟩
  rw [e] at c1 c2
  rw [← hR]
  refine Fn.intro (fn := Tryz.f120) Tryz.call120 Tryz.func120 rfl mixed 5 [] [] [] (by kernel_rfl) (Nat.le_of_ble_eq_true rfl) (by simp [settled_ints, settled_I, settled_fn0, settled_intss, settled_bool, settled_nil, settled_zA, settled_qA, settled_vA, settled_zR, settled_ofA, settled_int]) (vc_soundN 1000 ?_); simp (config := { maxSteps := 2000000 }) only [AS.start, ↓wPre, wA, ↓reduceIte, reduceIte, reduceCtorEq, Y1, Y2, Y3, Y4, Y5, Y6, Y7, Y8, Y9, YA, zA, qA, qC, vA, vC, wN]
  refine call_fn c1 rfl ?_
  simp only [↓wPre, wA, ↓reduceIte, reduceIte, reduceCtorEq, Y1, Y2, Y3, Y4, Y5, Y6, Y7, Y8, Y9, YA, zA, qA, qC, vA, vC, wN]
  refine call_fn c2 rfl ?_
  simp only [↓wPre, wA, ↓reduceIte, reduceIte, reduceCtorEq, Y1, Y2, Y3, Y4, Y5, Y6, Y7, Y8, Y9, YA, zA, qA, qC, vA, vC, wN]
  exact retV rfl ldk50 rfl rfl rfl sR (hR.trans rfl)
theorem pcross_fn (a b : V2) (ha : vb a ≤ vm) (hb : vb b ≤ vm) : Fn Tryz.prog 159 [vA a, vA b] (qA (cross a b)) := by
  unfold vm at ha hb
  obtain ⟨R, hR⟩ : ∃ R, R = qA (cross a b) := ⟨_, rfl⟩
  have sR : Settled R := hR ▸ settled_qA _
  have := vb_x a; have := vb_x b; have := vb_y a; have := vb_y b
  have m1 := qb_mul a.x b.y; have m2 := qb_mul a.y b.x
  have c1 := rmul_fn a.x b.y (by unfold rm; omega) (by unfold rm; omega)
  have c2 := rmul_fn a.y b.x (by unfold rm; omega) (by unfold rm; omega)
  have c3 := rneg_fn (a.y * b.x)
  have c4 := psum_fn (a.x * b.y) (-(a.y * b.x)) (by omega) (by rw [qb_neg]; omega)
  rw [← Rat.sub_eq_add_neg, show a.x * b.y - a.y * b.x = cross a b from rfl, ← hR] at c4
  rw [← hR]
  refine Fn.intro (fn := Tryz.f159) Tryz.call159 Tryz.func159 rfl mixed 5 [] [] [] (by kernel_rfl) (Nat.le_of_ble_eq_true rfl) (by simp [settled_ints, settled_I, settled_fn0, settled_intss, settled_bool, settled_nil, settled_zA, settled_qA, settled_vA, settled_zR, settled_ofA, settled_int]) (vc_soundN 1000 ?_); simp (config := { maxSteps := 2000000 }) only [AS.start, ↓wPre, wA, ↓reduceIte, reduceIte, reduceCtorEq, Y1, Y2, Y3, Y4, Y5, Y6, Y7, Y8, Y9, YA, zA, qA, qC, vA, vC, wN]
  refine call_fn c1 rfl ?_
  simp only [↓wPre, wA, ↓reduceIte, reduceIte, reduceCtorEq, Y1, Y2, Y3, Y4, Y5, Y6, Y7, Y8, Y9, YA, zA, qA, qC, vA, vC, wN]
  refine call_fn c2 rfl ?_
  simp only [↓wPre, wA, ↓reduceIte, reduceIte, reduceCtorEq, Y1, Y2, Y3, Y4, Y5, Y6, Y7, Y8, Y9, YA, zA, qA, qC, vA, vC, wN]
  refine call_fn c3 rfl ?_
  simp only [↓wPre, wA, ↓reduceIte, reduceIte, reduceCtorEq, Y1, Y2, Y3, Y4, Y5, Y6, Y7, Y8, Y9, YA, zA, qA, qC, vA, vC, wN]
  refine call_fn c4 rfl ?_
  simp only [hR, ↓wPre, wA, ↓reduceIte, reduceIte, reduceCtorEq, Y1, Y2, Y3, Y4, Y5, Y6, Y7, Y8, Y9, YA, zA, qA, qC, vA, vC, wN]
  exact retV rfl ldk28 rfl rfl rfl sR (hR.trans rfl)
theorem pdot_fn (a b : V2) (ha : vb a ≤ vm) (hb : vb b ≤ vm) : Fn Tryz.prog 191 [vA a, vA b] (qA (dot a b)) := by
  unfold vm at ha hb
  obtain ⟨R, hR⟩ : ∃ R, R = qA (dot a b) := ⟨_, rfl⟩
  have sR : Settled R := hR ▸ settled_qA _
  have := vb_x a; have := vb_x b; have := vb_y a; have := vb_y b
  have m1 := qb_mul a.x b.x; have m2 := qb_mul a.y b.y
  have c1 := rmul_fn a.x b.x (by unfold rm; omega) (by unfold rm; omega)
  have c2 := rmul_fn a.y b.y (by unfold rm; omega) (by unfold rm; omega)
  have c4 := psum_fn (a.x * b.x) (a.y * b.y) (by omega) (by omega)
  rw [show a.x * b.x + a.y * b.y = dot a b from rfl, ← hR] at c4
  rw [← hR]
  refine Fn.intro (fn := Tryz.f191) Tryz.call191 Tryz.func191 rfl mixed 5 [] [] [] (by kernel_rfl) (Nat.le_of_ble_eq_true rfl) (by simp [settled_ints, settled_I, settled_fn0, settled_intss, settled_bool, settled_nil, settled_zA, settled_qA, settled_vA, settled_zR, settled_ofA, settled_int]) (vc_soundN 1000 ?_); simp (config := { maxSteps := 2000000 }) only [AS.start, ↓wPre, wA, ↓reduceIte, reduceIte, reduceCtorEq, Y1, Y2, Y3, Y4, Y5, Y6, Y7, Y8, Y9, YA, zA, qA, qC, vA, vC, wN]
  refine call_fn c1 rfl ?_
  simp only [↓wPre, wA, ↓reduceIte, reduceIte, reduceCtorEq, Y1, Y2, Y3, Y4, Y5, Y6, Y7, Y8, Y9, YA, zA, qA, qC, vA, vC, wN]
  refine call_fn c2 rfl ?_
  simp only [↓wPre, wA, ↓reduceIte, reduceIte, reduceCtorEq, Y1, Y2, Y3, Y4, Y5, Y6, Y7, Y8, Y9, YA, zA, qA, qC, vA, vC, wN]
  refine call_fn c4 rfl ?_
  simp only [hR, ↓wPre, wA, ↓reduceIte, reduceIte, reduceCtorEq, Y1, Y2, Y3, Y4, Y5, Y6, Y7, Y8, Y9, YA, zA, qA, qC, vA, vC, wN]
  exact retV rfl ldk28 rfl rfl rfl sR (hR.trans rfl)
def vs : Nat := 100000
theorem pside_fn (a b c : V2) (ha : vb a ≤ vs) (hb : vb b ≤ vs) (hc : vb c ≤ vs) : Fn Tryz.prog 179 [vA a, vA b, vA c] (I (side a b c)) := by
  unfold vs at ha hb hc
  have m1 := vb_sub b a; have m2 := vb_sub c a
  have c1 := psub_fn b a (by unfold rm; omega) (by unfold rm; omega)
  have c2 := psub_fn c a (by unfold rm; omega) (by unfold rm; omega)
  have c3 := pcross_fn (b.sub a) (c.sub a) (by unfold vm; omega) (by unfold vm; omega)
  have c4 := rsign_fn (cross (b.sub a) (c.sub a))
  refine Fn.intro (fn := Tryz.f179) Tryz.call179 Tryz.func179 rfl mixed 7 [] [] [] (by kernel_rfl) (Nat.le_of_ble_eq_true rfl) (by simp [settled_ints, settled_I, settled_fn0, settled_intss, settled_bool, settled_nil, settled_zA, settled_qA, settled_vA, settled_zR, settled_ofA, settled_int]) (vc_soundN 1000 ?_); simp (config := { maxSteps := 2000000 }) only [AS.start, ↓wPre, wA, ↓reduceIte, reduceIte, reduceCtorEq, Y1, Y2, Y3, Y4, Y5, Y6, Y7, Y8, Y9, YA, zA, qA, qC, vA, vC, wN]
  refine call_fn c1 rfl ?_
  simp only [↓wPre, wA, ↓reduceIte, reduceIte, reduceCtorEq, Y1, Y2, Y3, Y4, Y5, Y6, Y7, Y8, Y9, YA, zA, qA, qC, vA, vC, wN]
  refine call_fn c2 rfl ?_
  simp only [↓wPre, wA, ↓reduceIte, reduceIte, reduceCtorEq, Y1, Y2, Y3, Y4, Y5, Y6, Y7, Y8, Y9, YA, zA, qA, qC, vA, vC, wN]
  refine call_fn c3 rfl ?_
  simp only [↓wPre, wA, ↓reduceIte, reduceIte, reduceCtorEq, Y1, Y2, Y3, Y4, Y5, Y6, Y7, Y8, Y9, YA, zA, qA, qC, vA, vC, wN]
  refine call_fn c4 rfl ?_
  simp only [↓wPre, wA, ↓reduceIte, reduceIte, reduceCtorEq, Y1, Y2, Y3, Y4, Y5, Y6, Y7, Y8, Y9, YA, zA, qA, qC, vA, vC, wN]
  exact ret1E rfl rfl (settled_I _) rfl
def onF (a b p : V2) : Bool := decide (side a b p = 0) && decide ((dot (a.sub p) (b.sub p)).num.sign ≤ 0)
theorem on_fn (a b p : V2) (ha : vb a ≤ vs) (hb : vb b ≤ vs) (hp : vb p ≤ vs) : Fn Tryz.prog 228 [vA a, vA b, vA p] (.bool (onF a b p)) := by
  have c1 := pside_fn a b p ha hb hp
  unfold vs at ha hb hp
  have m1 := vb_sub a p; have m2 := vb_sub b p
  have c2 := psub_fn a p (by unfold rm; omega) (by unfold rm; omega)
  have c3 := psub_fn b p (by unfold rm; omega) (by unfold rm; omega)
  have c4 := pdot_fn (a.sub p) (b.sub p) (by unfold vm; omega) (by unfold vm; omega)
  have c5 := rsign_fn (dot (a.sub p) (b.sub p))
  obtain ⟨V, hV⟩ : ∃ V, V = onF a b p := ⟨_, rfl⟩
  rw [← hV]
  unfold onF at hV
  refine Fn.intro (fn := Tryz.f228) Tryz.call228 Tryz.func228 rfl mixed 7 [] [] [] (by kernel_rfl) (Nat.le_of_ble_eq_true rfl) (by simp [settled_ints, settled_I, settled_fn0, settled_intss, settled_bool, settled_nil, settled_zA, settled_qA, settled_vA, settled_zR, settled_ofA, settled_int]) (vc_soundN 1000 ?_); simp (config := { maxSteps := 2000000 }) only [AS.start, ↓wPre, wA, ↓reduceIte, reduceIte, reduceCtorEq, Y1, Y2, Y3, Y4, Y5, Y6, Y7, Y8, Y9, YA, zA, qA, qC, vA, vC, wN]
  refine call_fn c1 rfl ?_
  by_cases h : side a b p = 0
  · have f1 : (side a b p = 0) = True := eq_true h
    simp only [f1, ↓wPre, wA, ↓reduceIte, reduceIte, reduceCtorEq, Y1, Y2, Y3, Y4, Y5, Y6, Y7, Y8, Y9, YA, zA, qA, qC, vA, vC, wN]
    refine call_fn c2 rfl ?_
    simp only [↓wPre, wA, ↓reduceIte, reduceIte, reduceCtorEq, Y1, Y2, Y3, Y4, Y5, Y6, Y7, Y8, Y9, YA, zA, qA, qC, vA, vC, wN]
    refine call_fn c3 rfl ?_
    simp only [↓wPre, wA, ↓reduceIte, reduceIte, reduceCtorEq, Y1, Y2, Y3, Y4, Y5, Y6, Y7, Y8, Y9, YA, zA, qA, qC, vA, vC, wN]
    refine call_fn c4 rfl ?_
    simp only [↓wPre, wA, ↓reduceIte, reduceIte, reduceCtorEq, Y1, Y2, Y3, Y4, Y5, Y6, Y7, Y8, Y9, YA, zA, qA, qC, vA, vC, wN]
    refine call_fn c5 rfl ?_
    simp only [↓wPre, wA, ↓reduceIte, reduceIte, reduceCtorEq, Y1, Y2, Y3, Y4, Y5, Y6, Y7, Y8, Y9, YA, zA, qA, qC, vA, vC, wN]
    exact ret1E rfl rfl (settled_bool _) (by rw [hV, decide_eq_true h]; rfl)
  · have f1 : (side a b p = 0) = False := eq_false h
    simp only [f1, ↓wPre, wA, ↓reduceIte, reduceIte, reduceCtorEq, Y1, Y2, Y3, Y4, Y5, Y6, Y7, Y8, Y9, YA, zA, qA, qC, vA, vC, wN]
    exact ret1E rfl rfl (settled_bool _) (by rw [hV, decide_eq_false h]; rfl)
def properF (a b c d : V2) : Bool := decide (side a b c * side a b d < 0) && decide (side c d a * side c d b < 0)
def meetsF (a b c d : V2) : Bool := properF a b c d || onF a b c || onF a b d || onF c d a || onF c d b
theorem side_bit (a b c : V2) : -1 ≤ side a b c ∧ side a b c ≤ 1 := by
  unfold side
  generalize (cross (b.sub a) (c.sub a)).num = n
  rcases Int.lt_trichotomy n 0 with h | h | h
  · rw [Int.sign_eq_neg_one_of_neg h]; omega
  · rw [h]; simp
  · rw [Int.sign_eq_one_of_pos h]; omega
theorem bit_mul {x y : Int} (hx : -1 ≤ x ∧ x ≤ 1) (hy : -1 ≤ y ∧ y ≤ 1) : IntKind.i64.wrap (x * y) = x * y := by
  rcases (show x = -1 ∨ x = 0 ∨ x = 1 by omega) with rfl | rfl | rfl <;> rw [IntKind.wrap_i64] <;> omega
theorem meets_fn (a b c d : V2) (ha : vb a ≤ vs) (hb : vb b ≤ vs) (hc : vb c ≤ vs) (hd : vb d ≤ vs) : Fn Tryz.prog 180 [vA a, vA b, vA c, vA d] (.bool (meetsF a b c d)) := by
  have c1 := pside_fn a b c ha hb hc
  have c2 := pside_fn a b d ha hb hd
  have c3 := pside_fn c d a hc hd ha
  have c4 := pside_fn c d b hc hd hb
  have d1 := on_fn a b c ha hb hc
  have d2 := on_fn a b d ha hb hd
  have d3 := on_fn c d a hc hd ha
  have d4 := on_fn c d b hc hd hb
  have w1 := bit_mul (side_bit a b c) (side_bit a b d)
  have w2 := bit_mul (side_bit c d a) (side_bit c d b)
  obtain ⟨V, hV⟩ : ∃ V, V = meetsF a b c d := ⟨_, rfl⟩
  rw [← hV]
  unfold meetsF properF at hV
  have fin : ∀ {s : AS} {v : Bool}, s.get 8 = .bool v → v = V → RetOk (envP Tryz.prog Tryz.f180 [] [] (.bool V)) s := fun h e => ret1E rfl h (settled_bool _) (by rw [e])
  obtain ⟨B1, hB1⟩ : ∃ B, B = onF a b c := ⟨_, rfl⟩
  obtain ⟨B2, hB2⟩ : ∃ B, B = onF a b d := ⟨_, rfl⟩
  obtain ⟨B3, hB3⟩ : ∃ B, B = onF c d a := ⟨_, rfl⟩
  obtain ⟨B4, hB4⟩ : ∃ B, B = onF c d b := ⟨_, rfl⟩
  rw [← hB1] at d1 hV
  rw [← hB2] at d2 hV
  rw [← hB3] at d3 hV
  rw [← hB4] at d4 hV
  refine Fn.intro (fn := Tryz.f180) Tryz.call180 Tryz.func180 rfl mixed 9 [] [] [] (by kernel_rfl) (Nat.le_of_ble_eq_true rfl) (by simp [settled_ints, settled_I, settled_fn0, settled_intss, settled_bool, settled_nil, settled_zA, settled_qA, settled_vA, settled_zR, settled_ofA, settled_int]) (vc_soundN 1000 ?_); simp (config := { maxSteps := 2000000 }) only [AS.start, ↓wPre, wA, ↓reduceIte, reduceIte, reduceCtorEq, Y1, Y2, Y3, Y4, Y5, Y6, Y7, Y8, Y9, YA, zA, qA, qC, vA, vC, wN]
  refine call_fn c1 rfl ?_
  simp only [↓wPre, wA, ↓reduceIte, reduceIte, reduceCtorEq, Y1, Y2, Y3, Y4, Y5, Y6, Y7, Y8, Y9, YA, zA, qA, qC, vA, vC, wN]
  refine call_fn c2 rfl ?_
  by_cases h1 : side a b c * side a b d < 0
  · have f1 : (side a b c * side a b d < 0) = True := eq_true h1
    simp only [w1, f1, ↓wPre, wA, ↓reduceIte, reduceIte, reduceCtorEq, Y1, Y2, Y3, Y4, Y5, Y6, Y7, Y8, Y9, YA, zA, qA, qC, vA, vC, wN]
    refine call_fn c3 rfl ?_
    simp only [↓wPre, wA, ↓reduceIte, reduceIte, reduceCtorEq, Y1, Y2, Y3, Y4, Y5, Y6, Y7, Y8, Y9, YA, zA, qA, qC, vA, vC, wN]
    refine call_fn c4 rfl ?_
    by_cases h2 : side c d a * side c d b < 0
    · have f2 : (side c d a * side c d b < 0) = True := eq_true h2
      simp only [w2, f2, ↓wPre, wA, ↓reduceIte, reduceIte, reduceCtorEq, Y1, Y2, Y3, Y4, Y5, Y6, Y7, Y8, Y9, YA, zA, qA, qC, vA, vC, wN]
      exact fin rfl (by rw [hV, decide_eq_true h1, decide_eq_true h2]; rfl)
    · have f2 : (side c d a * side c d b < 0) = False := eq_false h2
      simp only [w2, f2, ↓wPre, wA, ↓reduceIte, reduceIte, reduceCtorEq, Y1, Y2, Y3, Y4, Y5, Y6, Y7, Y8, Y9, YA, zA, qA, qC, vA, vC, wN]
      rw [decide_eq_true h1, decide_eq_false h2] at hV
      refine call_fn d1 rfl ?_
      cases B1
      rotate_left
      · simp only [↓wPre, wA, ↓reduceIte, reduceIte, reduceCtorEq, Y1, Y2, Y3, Y4, Y5, Y6, Y7, Y8, Y9, YA, zA, qA, qC, vA, vC, wN]
        exact fin rfl (by rw [hV]; simp)
      simp only [↓wPre, wA, ↓reduceIte, reduceIte, reduceCtorEq, Y1, Y2, Y3, Y4, Y5, Y6, Y7, Y8, Y9, YA, zA, qA, qC, vA, vC, wN]
      refine call_fn d2 rfl ?_
      cases B2
      rotate_left
      · simp only [↓wPre, wA, ↓reduceIte, reduceIte, reduceCtorEq, Y1, Y2, Y3, Y4, Y5, Y6, Y7, Y8, Y9, YA, zA, qA, qC, vA, vC, wN]
        exact fin rfl (by rw [hV]; simp)
      simp only [↓wPre, wA, ↓reduceIte, reduceIte, reduceCtorEq, Y1, Y2, Y3, Y4, Y5, Y6, Y7, Y8, Y9, YA, zA, qA, qC, vA, vC, wN]
      refine call_fn d3 rfl ?_
      cases B3
      rotate_left
      · simp only [↓wPre, wA, ↓reduceIte, reduceIte, reduceCtorEq, Y1, Y2, Y3, Y4, Y5, Y6, Y7, Y8, Y9, YA, zA, qA, qC, vA, vC, wN]
        exact fin rfl (by rw [hV]; simp)
      simp only [↓wPre, wA, ↓reduceIte, reduceIte, reduceCtorEq, Y1, Y2, Y3, Y4, Y5, Y6, Y7, Y8, Y9, YA, zA, qA, qC, vA, vC, wN]
      refine call_fn d4 rfl ?_
      simp only [↓wPre, wA, ↓reduceIte, reduceIte, reduceCtorEq, Y1, Y2, Y3, Y4, Y5, Y6, Y7, Y8, Y9, YA, zA, qA, qC, vA, vC, wN]
      exact fin rfl (by rw [hV]; simp)
  · have f1 : (side a b c * side a b d < 0) = False := eq_false h1
    simp only [w1, f1, ↓wPre, wA, ↓reduceIte, reduceIte, reduceCtorEq, Y1, Y2, Y3, Y4, Y5, Y6, Y7, Y8, Y9, YA, zA, qA, qC, vA, vC, wN]
    rw [decide_eq_false h1] at hV
    refine call_fn d1 rfl ?_
    cases B1
    rotate_left
    · simp only [↓wPre, wA, ↓reduceIte, reduceIte, reduceCtorEq, Y1, Y2, Y3, Y4, Y5, Y6, Y7, Y8, Y9, YA, zA, qA, qC, vA, vC, wN]
      exact fin rfl (by rw [hV]; simp)
    simp only [↓wPre, wA, ↓reduceIte, reduceIte, reduceCtorEq, Y1, Y2, Y3, Y4, Y5, Y6, Y7, Y8, Y9, YA, zA, qA, qC, vA, vC, wN]
    refine call_fn d2 rfl ?_
    cases B2
    rotate_left
    · simp only [↓wPre, wA, ↓reduceIte, reduceIte, reduceCtorEq, Y1, Y2, Y3, Y4, Y5, Y6, Y7, Y8, Y9, YA, zA, qA, qC, vA, vC, wN]
      exact fin rfl (by rw [hV]; simp)
    simp only [↓wPre, wA, ↓reduceIte, reduceIte, reduceCtorEq, Y1, Y2, Y3, Y4, Y5, Y6, Y7, Y8, Y9, YA, zA, qA, qC, vA, vC, wN]
    refine call_fn d3 rfl ?_
    cases B3
    rotate_left
    · simp only [↓wPre, wA, ↓reduceIte, reduceIte, reduceCtorEq, Y1, Y2, Y3, Y4, Y5, Y6, Y7, Y8, Y9, YA, zA, qA, qC, vA, vC, wN]
      exact fin rfl (by rw [hV]; simp)
    simp only [↓wPre, wA, ↓reduceIte, reduceIte, reduceCtorEq, Y1, Y2, Y3, Y4, Y5, Y6, Y7, Y8, Y9, YA, zA, qA, qC, vA, vC, wN]
    refine call_fn d4 rfl ?_
    simp only [↓wPre, wA, ↓reduceIte, reduceIte, reduceCtorEq, Y1, Y2, Y3, Y4, Y5, Y6, Y7, Y8, Y9, YA, zA, qA, qC, vA, vC, wN]
    exact fin rfl (by rw [hV]; simp)
end
end Go.Ab.N
namespace Go.Ab.N
open Go Go.RowKit Go.Proofs
noncomputable section
set_option maxRecDepth 10000
set_option maxHeartbeats 2000000
open Classical

/-! ### Lists of vectors -/
def v0 : V2 := ⟨0, 0⟩
def vecs (l : List V2) : AV := sls vC 8 v0 l
theorem settled_vecs (l : List V2) : Settled (vecs l) := settled_sls fun a x hx => by
  have : ∀ x ∈ vC a, Settled x := by simp [vC, settled_ints, settled_bool]
  exact this x hx
theorem vecs_def (l : List V2) : vecs l = .sl l.length (l.length * 8) (slFs vC 8 v0 l) false := nrfl rfl
theorem vF (l : List V2) (i : Nat) : slFs vC 8 v0 l (i * 8) = .bool (decide ((l.getD i v0).x.num < 0)) ∧ slFs vC 8 v0 l (i * 8 + 1) = ints (digs (l.getD i v0).x.num.natAbs) ∧ slFs vC 8 v0 l (i * 8 + 2) = .bool false ∧ slFs vC 8 v0 l (i * 8 + 3) = ints (digs (qd (l.getD i v0).x)) ∧
    slFs vC 8 v0 l (i * 8 + 4) = .bool (decide ((l.getD i v0).y.num < 0)) ∧ slFs vC 8 v0 l (i * 8 + 5) = ints (digs (l.getD i v0).y.num.natAbs) ∧ slFs vC 8 v0 l (i * 8 + 6) = .bool false ∧ slFs vC 8 v0 l (i * 8 + 7) = ints (digs (qd (l.getD i v0).y)) := by
  refine ⟨?_, ?_, ?_, ?_, ?_, ?_, ?_, ?_⟩
  · rw [slFs_at0 _ _ _ _ _ (by omega)]; rfl
  all_goals rw [slFs_at _ _ _ _ _ _ (by omega)]; rfl
theorem sides_fn (l : List V2) : Fn Tryz.prog 158 [vecs l] (.fn 218 [.ptr 1 (ofL [vecs l]) 0]) := by
  have hset : Settled (.fn 218 [.ptr 1 (ofL [vecs l]) 0]) := settled_fn (by
    intro a ha
    simp only [List.mem_cons, List.not_mem_nil, or_false] at ha
    rw [ha]
    exact settled_ptr fun j hj => by obtain rfl : j = 0 := by omega
                                     exact settled_vecs l)
  refine Fn.intro (fn := Tryz.f158) Tryz.call158 Tryz.func158 rfl mixed 4 [] [] [] (by kernel_rfl) (Nat.le_of_ble_eq_true rfl) (by simp [settled_vecs]) (vc_soundN 1000 ?_)
  simp only [AS.start, vecs_def, ↓wPre, wA, ↓reduceIte, reduceIte, reduceCtorEq, Y1, Y2, Y3, Y4, Y5, Y6, Y7, Y8, Y9, YA, zA, qA, qC, vA, vC, wSeq, wN]
  refine ret1 rfl (sees_fn ⟨sees_ref (.inl rfl) (by omega) fun j hj => ?_, trivial⟩)
  obtain rfl : j = 0 := by omega
  exact (settled_vecs l).sees _
theorem sides_iter (L : List V2) (t : Tok) (A B : Nat → AO) (hL : L.length < 1000000) (hy : ∀ i, i < L.length → YCall Tryz.prog t [vA (L.getD i v0), vA (L.getD ((i + 1) % L.length) v0)] [A i, B i] (.bool true) [A (i + 1), B (i + 1)])
    (hA : ∀ i, belO 2 (A i) ∧ A i ≠ .unborn ∧ ∀ v n f, A i ≠ .con v n f) (hB : ∀ i, belO 2 (B i) ∧ B i ≠ .unborn ∧ ∀ v n f, B i ≠ .con v n f) (hce : t.ce.H.length ≤ 2) :
    ICall Tryz.prog t 218 [.yld t.l, .ptr 1 (ofL [vecs L]) 0] [A 0, B 0] [A L.length, B L.length] := by
  have hAO : ∀ i, belO 2 (A i) = True := fun i => eq_true (hA i).1
  have hBO : ∀ i, belO 2 (B i) = True := fun i => eq_true (hB i).1
  refine ICall.intro (fn := Tryz.f218) Tryz.call218 Tryz.func218 rfl mixed 5 [5, 6, 7] [3, 40000004] [3] (by kernel_rfl) (Nat.le_of_ble_eq_true rfl) hce (by simp [hAO, hBO]) (vc_soundN 1000 ?_)
  simp only [AS.start, vecs_def, ↓wPre, wA, ↓reduceIte, reduceIte, reduceCtorEq, Y1, Y2, Y3, Y4, Y5, Y6, Y7, Y8, Y9, YA, zA, qA, qC, vA, vC, wSeq, wN]
  refine run_loop (fun i : Nat => ⟨5, [5, 6, 7], [.yld t.l, .ptr 1 (ofL [vecs L]) 0, .any, .any, .any], [(5, vecs L), (6, I L.length), (7, I i)], [A i, B i]⟩) (fun i => i ≤ L.length) (fun i => L.length - i) 0 (by omega)
    (sub_mk rfl (by simp [subL, vecs_def]) (by simp [subT, look, vecs_def, I]) rfl) ?_
  intro i hi next
  have w1 := wj i (by omega)
  by_cases hi2 : i < L.length
  · have f1 : ((i : Int) < L.length) = True := eq_true (by omega)
    have f2 : (i < L.length) = True := eq_true hi2
    have f3 : (i * 8 + 8 ≤ L.length * 8) = True := eq_true (by omega)
    have hm : ((i + 1 : Nat) : Int).tmod L.length = (((i + 1) % L.length : Nat) : Int) := rfl
    have hml : (i + 1) % L.length < L.length := Nat.mod_lt _ (by omega)
    have f4 : ((i + 1) % L.length < L.length) = True := eq_true hml
    have f5 : ((i + 1) % L.length * 8 + 8 ≤ L.length * 8) = True := eq_true (by omega)
    have f6 : ((L.length : Int) = 0) = False := eq_false (by omega)
    have f6' : (L.length = 0) = False := eq_false (by omega)
    have v1 := vF L i
    have v2 := vF L ((i + 1) % L.length)
    refine vc_soundN 1000 ?_
    simp only [vecs_def, w1, f1, f2, f3, f4, f5, f6, f6', hm, v1, v2, Int.toNat_natCast, ↓wPre, wA, ↓reduceIte, reduceIte, reduceCtorEq, Y1, Y2, Y3, Y4, Y5, Y6, Y7, Y8, Y9, YA, zA, qA, qC, vA, vC, wSeq, wN]
    refine call_yield (t := t) (H1 := [A i, B i]) (H1' := [A (i + 1), B (i + 1)]) rfl rfl (List.mem_singleton.2 rfl) (hy i hi2) rfl rfl hce ?_ ?_ ?_ ?_ ?_ ⟨Weak.rfl' _, Weak.rfl' _, trivial⟩ ?_
    · intro a ha
      simp only [List.mem_cons, List.not_mem_nil, or_false] at ha
      rcases ha with rfl | rfl <;> exact bel_of_settled (settled_vA _)
    · intro o ho
      simp only [List.mem_cons, List.not_mem_nil, or_false] at ho
      rcases ho with rfl | rfl
      · exact (hA i).1
      · exact (hB i).1
    · intro o ho
      simp only [List.mem_cons, List.not_mem_nil, or_false] at ho
      rcases ho with rfl | rfl
      · exact (hA i).2.1
      · exact (hB i).2.1
    · intro o ho
      simp only [List.mem_cons, List.not_mem_nil, or_false] at ho
      rcases ho with rfl | rfl
      · exact (hA (i + 1)).2.1
      · exact (hB (i + 1)).2.1
    · refine conEq_free ?_ ?_
      · intro o ho
        simp only [List.mem_cons, List.not_mem_nil, or_false] at ho
        rcases ho with rfl | rfl
        · exact (hA i).2.2
        · exact (hB i).2.2
      · intro o ho
        simp only [List.mem_cons, List.not_mem_nil, or_false] at ho
        rcases ho with rfl | rfl
        · exact (hA (i + 1)).2.2
        · exact (hB (i + 1)).2.2
    simp only [vecs_def, w1, ↓wPre, wA, ↓reduceIte, reduceIte, reduceCtorEq, Y1, Y2, Y3, Y4, Y5, Y6, Y7, Y8, Y9, YA, zA, qA, qC, vA, vC, wSeq, wN]
    have hbv : Bel 2 (vecs L) = True := eq_true (bel_of_settled (settled_vecs L))
    have hbp : Bel 2 (.ptr 1 (ofL [vecs L]) 0) = True := eq_true (bel_of_settled (settled_ptr fun j hj => by obtain rfl : j = 0 := by omega
                                                                                                             exact settled_vecs L))
    have hby : Bel 2 (.yld t.l) = True := eq_true fun c v hv => by cases hv; exact .yld _
    exact next (i + 1) _ (by omega) (by omega) (sub_cut (m := 2) (Nat.le_refl 2) rfl (by simp [vecs_def, subL, ints, sl1, I]) (by simp [vecs_def, subT, look, I]) rfl (by simp [hby, hbp, wBel]) (by simp [hbv, wBel]) (by simp [hAO, hBO]))
  · obtain rfl : i = L.length := by omega
    refine vc_soundN 1000 ?_
    simp only [vecs_def, Int.lt_irrefl, Nat.lt_irrefl, ↓wPre, wA, ↓reduceIte, reduceIte, reduceCtorEq, Y1, Y2, Y3, Y4, Y5, Y6, Y7, Y8, Y9, YA, zA, qA, qC, vA, vC, wSeq, wN]
    exact retI rfl rfl
/-- Twice the area, up to a side. -/
def areaS (L : List V2) : Nat → Rat
  | 0 => 0
  | i + 1 => areaS L i + cross (L.getD i v0) (L.getD ((i + 1) % L.length) v0)
def areaF (L : List V2) : Rat := areaS L L.length * Rat.divInt 1 2
def smallV (L : List V2) (k : Nat) : Prop := ∀ i, vb (L.getD i v0) ≤ k
theorem areaS_qb (L : List V2) (k : Nat) (h : smallV L k) : ∀ i, qb (areaS L i) ≤ (4 * k + 2) * i + 1
  | 0 => by have := qb_zero; simp only [areaS]; omega
  | i + 1 => by
    have ih := areaS_qb L k h i
    have h1 := qb_cross (L.getD i v0) (L.getD ((i + 1) % L.length) v0)
    have h2 := h i
    have h3 := h ((i + 1) % L.length)
    have h4 := qb_add (areaS L i) (cross (L.getD i v0) (L.getD ((i + 1) % L.length) v0))
    have e : (4 * k + 2) * (i + 1) = (4 * k + 2) * i + (4 * k + 2) := Nat.mul_succ _ _
    simp only [areaS]
    omega
theorem area_qb (L : List V2) (k : Nat) (h : smallV L k) (hk : k ≤ 1000) (hl : L.length ≤ 1000) : qb (areaS L L.length) ≤ 10000000 ∧ qb (areaF L) ≤ 10000000 := by
  have h1 := areaS_qb L k h L.length
  have h2 : (4 * k + 2) * L.length ≤ 4002 * 1000 := Nat.mul_le_mul (by omega) hl
  have h3 := qb_mul (areaS L L.length) (Rat.divInt 1 2)
  have h4 : qb (Rat.divInt 1 2) ≤ 3 := qb_divInt _ _ _ (by omega) (bl_i64 ⟨by omega, by omega⟩) (bl_i64 ⟨by omega, by omega⟩)
  unfold areaF
  omega
def areaA : AO := .row 0 4 (ofL [.bool false, .sl 0 0 (fun _ => .any) true, .bool false, .sl 0 0 (fun _ => .any) true])
def areaB (L : List V2) (i : Nat) : AO := .row 0 4 (ofL (qC (areaS L i)))
theorem area_fn (L : List V2) (k : Nat) (h : smallV L k) (hk : k ≤ 1000) (hl : L.length ≤ 1000) : Fn Tryz.prog 71 [vecs L] (qA (areaF L)) := by
  obtain ⟨R, hR⟩ : ∃ R, R = qA (areaF L) := ⟨_, rfl⟩
  have sR : Settled R := hR ▸ settled_qA _
  obtain ⟨q1, q2⟩ := area_qb L k h hk hl
  have cs := sides_fn L
  rw [← hR]
  refine Fn.intro (fn := Tryz.f71) Tryz.call71 Tryz.func71 rfl mixed 6 [8, 9] [] [] (by kernel_rfl) (Nat.le_of_ble_eq_true rfl) (by simp [settled_vecs]) (vc_soundN 1000 ?_)
  simp only [AS.start, vecs_def, ↓wPre, wA, ↓reduceIte, reduceIte, reduceCtorEq, Y1, Y2, Y3, Y4, Y5, Y6, Y7, Y8, Y9, YA, zA, qA, qC, vA, vC, wSeq, wN]
  refine call_fn cs rfl ?_
  simp only [↓wPre, wA, ↓reduceIte, reduceIte, reduceCtorEq, Y1, Y2, Y3, Y4, Y5, Y6, Y7, Y8, Y9, YA, zA, qA, qC, vA, vC, wSeq, wN]
  have bA : belO 2 areaA ∧ areaA ≠ .unborn ∧ ∀ v n f, areaA ≠ .con v n f := ⟨by simp [areaA, wBel], by simp [areaA], by simp [areaA]⟩
  have bB : ∀ i, belO 2 (areaB L i) ∧ areaB L i ≠ .unborn ∧ ∀ v n f, areaB L i ≠ .con v n f := fun i => ⟨by simp [areaB, qC, wBel], by simp [areaB], by simp [areaB]⟩
  refine Run.sub (s' := ⟨6, [8, 9], [vecs L, .any, .ref 0 0 0, .ref 1 0 0, .any, .any], [(7, .fn 218 [.ptr 1 (ofL [vecs L]) 0])], [areaA, areaB L 0]⟩) ?_ ((sub_roww 1 (ofL (qC 0)) rfl fun j hj => ?_).trans (sub_mk rfl (by simp [subL, vecs_def]) (by simp [subT, look]) (by simp [areaA, areaB, areaS])))
  rotate_left
  · match j, hj with
    | 0, _ => exact weakIn_rfl _ _
    | 1, _ => exact weakIn_of (weak_empE (by rw [Rat.zero_num]; simp [digs_zero]))
    | 2, _ => exact weakIn_rfl _ _
    | 3, _ => exact weakIn_of (weak_empE (qd_one rfl))
    | j + 4, h => omega
  refine run_rangeFunc (gf := 218) (caps := [.ptr 1 (ofL [vecs L]) 0]) (Hn := [areaA, areaB L L.length]) rfl rfl rfl (fun t ht => ?_) ?_
  · refine sides_iter L t (fun _ => areaA) (areaB L) (by omega) (fun i hi => ?_) (fun _ => bA) bB (by rw [ht.ch]; exact Nat.le_refl _)
    have hc := pcross_fn (L.getD i v0) (L.getD ((i + 1) % L.length) v0) (by have := h i; unfold vm; omega) (by have := h ((i + 1) % L.length); unfold vm; omega)
    have b1 := areaS_qb L k h i
    have b2 : (4 * k + 2) * i ≤ 4002 * 1000 := Nat.mul_le_mul (by omega) (by omega)
    have b3 := qb_cross (L.getD i v0) (L.getD ((i + 1) % L.length) v0)
    have b4 := h i
    have b5 := h ((i + 1) % L.length)
    have ha := radd_fn (areaS L i) (cross (L.getD i v0) (L.getD ((i + 1) % L.length) v0)) (by unfold rm; omega) (by unfold rm; omega)
    refine yield_intro (str := []) (hcs := []) ht mixed (by kernel_rfl) (by kernel_rfl) rfl (fun p hp => ?_) (fun o ho => ?_) (fun l r hr => ?_)
    · have hp' : p = 8 ∨ p = 9 := by simpa using hp
      rcases hp' with rfl | rfl <;> exact Nat.le_of_ble_eq_true rfl
    · simp only [List.mem_cons, List.not_mem_nil, or_false] at ho
      rcases ho with rfl | rfl
      · exact bA.1
      · exact (bB (i + 1)).1
    show Run _ _ ⟨6, [8, 9], [vecs L, .any, .ref 0 0 0, .ref 1 0 0, .any, .any], [(9, vA (L.getD ((i + 1) % L.length) v0)), (8, vA (L.getD i v0)), (7, .fn 218 [.ptr 1 (ofL [vecs L]) 0])], [areaA, areaB L i]⟩
    refine vc_soundN 1000 ?_
    simp only [areaA, areaB, ↓wPre, wA, ↓reduceIte, reduceIte, reduceCtorEq, Y1, Y2, Y3, Y4, Y5, Y6, Y7, Y8, Y9, YA, zA, qA, qC, vA, vC, wSeq, wN]
    refine envR_begin hr ?_
    refine vc_soundN 1000 ?_
    simp only [↓wPre, wA, ↓reduceIte, reduceIte, reduceCtorEq, Y1, Y2, Y3, Y4, Y5, Y6, Y7, Y8, Y9, YA, zA, qA, qC, vA, vC, wSeq, wN]
    refine call_fn hc rfl ?_
    simp only [↓wPre, wA, ↓reduceIte, reduceIte, reduceCtorEq, Y1, Y2, Y3, Y4, Y5, Y6, Y7, Y8, Y9, YA, zA, qA, qC, vA, vC, wSeq, wN]
    refine call_fn ha rfl ?_
    simp only [↓wPre, wA, ↓reduceIte, reduceIte, reduceCtorEq, Y1, Y2, Y3, Y4, Y5, Y6, Y7, Y8, Y9, YA, zA, qA, qC, vA, vC, wSeq, wN]
    exact retR rfl
  · refine vc_soundN 1000 ?_
    simp only [areaA, areaB, ↓wPre, wA, ↓reduceIte, reduceIte, reduceCtorEq, Y1, Y2, Y3, Y4, Y5, Y6, Y7, Y8, Y9, YA, zA, qA, qC, vA, vC, wSeq, wN]
    refine call_fn (rof_fn 1 2 ⟨by omega, by omega⟩ ⟨by omega, by omega⟩) rfl ?_
    simp only [↓wPre, wA, ↓reduceIte, reduceIte, reduceCtorEq, Y1, Y2, Y3, Y4, Y5, Y6, Y7, Y8, Y9, YA, zA, qA, qC, vA, vC, wSeq, wN]
    have hm := rmul_fn (areaS L L.length) (Rat.divInt 1 2) (by unfold rm; omega) (by
      have : qb (Rat.divInt 1 2) ≤ 3 := qb_divInt _ _ _ (by omega) (bl_i64 ⟨by omega, by omega⟩) (bl_i64 ⟨by omega, by omega⟩)
      unfold rm; omega)
    rw [show areaS L L.length * Rat.divInt 1 2 = areaF L from rfl, ← hR] at hm
    refine call_fn hm rfl ?_
    simp only [hR, ↓wPre, wA, ↓reduceIte, reduceIte, reduceCtorEq, Y1, Y2, Y3, Y4, Y5, Y6, Y7, Y8, Y9, YA, zA, qA, qC, vA, vC, wSeq, wN]
    exact retA rfl ldk28 rfl rfl rfl sR (hR.trans rfl)
end
end Go.Ab.N
namespace Go.Ab.N
open Go Go.RowKit Go.Proofs
noncomputable section
set_option maxRecDepth 10000
set_option maxHeartbeats 2000000
open Classical

/-! ### Which polygons are valid -/
theorem at_fn (L : List V2) (i : Nat) (hn : L.length < 1000000) (h0 : L.length ≠ 0) (hi : i < 1000000000) :
    Fn Tryz.prog 178 [I i, .ptr 1 (ofL [vecs L]) 0, .ptr 1 (ofL [I L.length]) 0] (vA (L.getD (i % L.length) v0)) := by
  obtain ⟨R, hR⟩ : ∃ R, R = vA (L.getD (i % L.length) v0) := ⟨_, rfl⟩
  have sR : Settled R := hR ▸ settled_vA _
  have hm : (i : Int).tmod L.length = ((i % L.length : Nat) : Int) := rfl
  have hml : i % L.length < L.length := Nat.mod_lt _ (by omega)
  have f4 : (i % L.length < L.length) = True := eq_true hml
  have f5 : (i % L.length * 8 + 8 ≤ L.length * 8) = True := eq_true (by omega)
  have f6 : ((L.length : Int) = 0) = False := eq_false (by omega)
  have f6' : (L.length = 0) = False := eq_false h0
  have v1 := vF L (i % L.length)
  have hs0 : Settled (.ptr 1 (ofL [vecs L]) 0) := settled_ptr fun j hj => by obtain rfl : j = 0 := by omega
                                                                             exact settled_vecs L
  have hs1 : Settled (.ptr 1 (ofL [I L.length]) 0) := settled_ptr fun j hj => by obtain rfl : j = 0 := by omega
                                                                                 exact settled_I _
  rw [← hR]
  refine Fn.intro (fn := Tryz.f178) Tryz.call178 Tryz.func178 rfl mixed 5 [] [] [] (by kernel_rfl) (Nat.le_of_ble_eq_true rfl) (by simp [settled_I, hs0, hs1]) (vc_soundN 1000 ?_)
  simp only [AS.start, vecs_def, f4, f5, f6, f6', hm, v1, Int.toNat_natCast, ↓wPre, wA, ↓reduceIte, reduceIte, reduceCtorEq, Y1, Y2, Y3, Y4, Y5, Y6, Y7, Y8, Y9, YA, zA, qA, qC, vA, vC, wSeq, wN]
  exact retV rfl ldk50 rfl rfl rfl sR (hR.trans rfl)

def atF (L : List V2) (i : Nat) : V2 := L.getD (i % L.length) v0
def badSide (L : List V2) (i : Nat) : Prop := side (atF L i) (atF L (i + 1)) (atF L (i + 2)) = 0
def badPair (L : List V2) (i k : Nat) : Prop := (k + 1) % L.length ≠ i ∧ meetsF (atF L i) (atF L (i + 1)) (atF L k) (atF L (k + 1)) = true
def goodAt (L : List V2) (i : Nat) : Prop := ¬ badSide L i ∧ ∀ k, i + 2 ≤ k → k < L.length → ¬ badPair L i k
/-- A valid polygon, as the program checks it. -/
def polyOk (L : List V2) : Prop := (3 ≤ L.length ∧ L.length ≤ 12) ∧ (∀ i, i < L.length → goodAt L i) ∧ 0 < (areaF L).num.sign
theorem pvalid_fn (L : List V2) (h : smallV L 1000) (hl : L.length < 1000000) : Fn Tryz.prog 90 [vecs L] (.bool (decide (polyOk L))) := by
  obtain ⟨V, hV⟩ : ∃ V, V = decide (polyOk L) := ⟨_, rfl⟩
  rw [← hV]
  have fin : ∀ {s : AS} {v : Bool}, s.get 2 = .bool v → v = V → RetOk (envP Tryz.prog Tryz.f90 [] [] (.bool V)) s := fun h e => ret1E rfl h (settled_bool _) (by rw [e])
  have hs0 : Settled (.ptr 1 (ofL [vecs L]) 0) := settled_ptr fun j hj => by obtain rfl : j = 0 := by omega
                                                                             exact settled_vecs L
  have hs1 : Settled (.ptr 1 (ofL [I L.length]) 0) := settled_ptr fun j hj => by obtain rfl : j = 0 := by omega
                                                                                 exact settled_I _
  have sm : ∀ i, vb (atF L i) ≤ vs := fun i => by have := h (i % L.length); unfold atF vs; omega
  refine Fn.intro (fn := Tryz.f90) Tryz.call90 Tryz.func90 rfl mixed 9 [17, 18, 19, 35, 36] [] [] (by kernel_rfl) (Nat.le_of_ble_eq_true rfl) (by simp [settled_vecs]) (vc_soundN 1000 ?_)
  by_cases hlo : (L.length : Int) < 3
  · have f1 : ((L.length : Int) < 3) = True := eq_true hlo
    simp only [AS.start, vecs_def, f1, ↓wPre, wA, ↓reduceIte, reduceIte, reduceCtorEq, Y1, Y2, Y3, Y4, Y5, Y6, Y7, Y8, Y9, YA, zA, qA, qC, vA, vC, wSeq, wN]
    exact fin rfl (by rw [hV, decide_eq_false]; unfold polyOk; omega)
  have f1 : ((L.length : Int) < 3) = False := eq_false hlo
  by_cases hhi : (12 : Int) < L.length
  · have f2 : ((12 : Int) < L.length) = True := eq_true hhi
    simp only [AS.start, vecs_def, f1, f2, ↓wPre, wA, ↓reduceIte, reduceIte, reduceCtorEq, Y1, Y2, Y3, Y4, Y5, Y6, Y7, Y8, Y9, YA, zA, qA, qC, vA, vC, wSeq, wN]
    exact fin rfl (by rw [hV, decide_eq_false]; unfold polyOk; omega)
  have f2 : ((12 : Int) < L.length) = False := eq_false hhi
  simp only [AS.start, vecs_def, f1, f2, ↓wPre, wA, ↓reduceIte, reduceIte, reduceCtorEq, Y1, Y2, Y3, Y4, Y5, Y6, Y7, Y8, Y9, YA, zA, qA, qC, vA, vC, wSeq, wN]
  have b0 : Bel 0 (.ptr 1 (ofL [vecs L]) 0) = True := eq_true (bel_of_settled hs0)
  have b1 : Bel 0 (.ptr 1 (ofL [I L.length]) 0) = True := eq_true (bel_of_settled hs1)
  have b2 : Bel 0 (vecs L) = True := eq_true (bel_of_settled (settled_vecs L))
  refine run_loop (fun i : Nat => ⟨9, [17, 18, 19, 35, 36], [.any, .ptr 1 (ofL [vecs L]) 0, .bool false, .ptr 1 (ofL [I L.length]) 0, .any, .any, .any, .any, .any], [(17, vecs L), (18, I L.length), (19, I i)], []⟩) (fun i => i ≤ L.length) (fun i => L.length - i) 0 (by omega)
    ((sub_con 0 rfl).trans ((sub_con 1 rfl).trans ((sub_viewP 1 rfl rfl (by omega)).trans ((sub_viewP 3 rfl rfl (by omega)).trans (sub_cut (m := 0) (Nat.zero_le _) rfl (by simp [AS.put, vecs_def, subL, ints, sl1, I]) (by simp [AS.put, vecs_def, subT, look, I]) rfl (by simp [b0, b1, wBel]) (by simp [b2, wBel]) (by simp)))))) ?_
  intro i hi next
  have w1 := wj i (by omega)
  have rv : ∀ r : Rat, qb r ≤ 1000 → Fn Tryz.prog 79 [qA r] (.bool true) := fun r hr => by
    have h1 := RQ.of_sz r
    have := rvalid_fn (RQ.of r) (by omega)
    rwa [decide_eq_true ⟨r, rfl⟩] at this
  by_cases hi2 : i < L.length
  · have f3 : ((i : Int) < L.length) = True := eq_true (by omega)
    have f4 : (i < L.length) = True := eq_true hi2
    have f5 : (i * 8 + 8 ≤ L.length * 8) = True := eq_true (by omega)
    have v1 := vF L i
    have hx := vb_x (L.getD i v0); have hy := vb_y (L.getD i v0); have hb := h i
    refine vc_soundN 1000 ?_
    simp only [vecs_def, w1, f3, f4, f5, v1, Int.toNat_natCast, ↓wPre, wA, ↓reduceIte, reduceIte, reduceCtorEq, Y1, Y2, Y3, Y4, Y5, Y6, Y7, Y8, Y9, YA, zA, qA, qC, vA, vC, wSeq, wN]
    refine call_fn (rv (L.getD i v0).x (by omega)) rfl ?_
    simp only [↓wPre, wA, ↓reduceIte, reduceIte, reduceCtorEq, Y1, Y2, Y3, Y4, Y5, Y6, Y7, Y8, Y9, YA, zA, qA, qC, vA, vC, wSeq, wN]
    refine call_fn (rv (L.getD i v0).y (by omega)) rfl ?_
    simp only [w1, ↓wPre, wA, ↓reduceIte, reduceIte, reduceCtorEq, Y1, Y2, Y3, Y4, Y5, Y6, Y7, Y8, Y9, YA, zA, qA, qC, vA, vC, wSeq, wN]
    exact next (i + 1) _ (by omega) (by omega) (sub_cut (m := 0) (Nat.zero_le _) rfl (by simp [vecs_def, subL, ints, sl1, I]) (by simp [vecs_def, subT, look, I]) rfl (by simp [b0, b1, wBel]) (by simp [b2, wBel]) (by simp))
  obtain rfl : i = L.length := by omega
  refine vc_soundN 1000 ?_
  simp only [vecs_def, Int.lt_irrefl, Nat.lt_irrefl, ↓wPre, wA, ↓reduceIte, reduceIte, reduceCtorEq, Y1, Y2, Y3, Y4, Y5, Y6, Y7, Y8, Y9, YA, zA, qA, qC, vA, vC, wSeq, wN]
  have hn0 : L.length ≠ 0 := by omega
  have cat : ∀ j : Nat, j < 1000000000 → Fn Tryz.prog 178 [I j, .ptr 1 (ofL [vecs L]) 0, .ptr 1 (ofL [I L.length]) 0] (vA (atF L j)) := fun j hj => at_fn L j hl hn0 hj
  have b3 : Bel 0 (.fn 178 [.ptr 1 (ofL [vecs L]) 0, .ptr 1 (ofL [I L.length]) 0]) = True := eq_true (bel_of_settled (settled_fn (by
    intro a ha
    simp only [List.mem_cons, List.not_mem_nil, or_false] at ha
    rcases ha with rfl | rfl
    · exact hs0
    · exact hs1)))
  refine run_loop (fun i : Nat => ⟨9, [17, 18, 19, 35, 36], [.any, .ptr 1 (ofL [vecs L]) 0, .bool false, .ptr 1 (ofL [I L.length]) 0, .any, .any, .fn 178 [.ptr 1 (ofL [vecs L]) 0, .ptr 1 (ofL [I L.length]) 0], .any, .any], [(35, I L.length), (36, I i)], []⟩) (fun i => i ≤ L.length ∧ ∀ j, j < i → goodAt L j) (fun i => L.length - i) 0 ⟨by omega, by omega⟩
    (sub_cut (m := 0) (Nat.zero_le _) rfl (by simp [vecs_def, subL, ints, sl1, I]) (by simp [vecs_def, subT, look, I]) rfl (by simp [b0, b1, b3, wBel]) (by simp [b2, wBel]) (by simp)) ?_
  rintro i ⟨hi, hgood⟩ next
  have w1 := wj i (by omega)
  have w2 : IntKind.i64.wrap ((i : Int) + 2) = ((i + 2 : Nat) : Int) := by rw [IntKind.wrap_i64]; omega
  by_cases hi2 : i < L.length
  rotate_left
  · obtain rfl : i = L.length := by omega
    refine vc_soundN 1000 ?_
    simp only [vecs_def, Int.lt_irrefl, Nat.lt_irrefl, ↓wPre, wA, ↓reduceIte, reduceIte, reduceCtorEq, Y1, Y2, Y3, Y4, Y5, Y6, Y7, Y8, Y9, YA, zA, qA, qC, vA, vC, wSeq, wN]
    have ca := area_fn L 1000 h (by omega) (by omega)
    have cs := rsign_fn (areaF L)
    refine call_fn ca rfl ?_
    simp only [↓wPre, wA, ↓reduceIte, reduceIte, reduceCtorEq, Y1, Y2, Y3, Y4, Y5, Y6, Y7, Y8, Y9, YA, zA, qA, qC, vA, vC, wSeq, wN]
    refine call_fn cs rfl ?_
    simp only [↓wPre, wA, ↓reduceIte, reduceIte, reduceCtorEq, Y1, Y2, Y3, Y4, Y5, Y6, Y7, Y8, Y9, YA, zA, qA, qC, vA, vC, wSeq, wN]
    exact fin rfl (by rw [hV, decide_eq_decide]; unfold polyOk; exact ⟨fun h => ⟨by omega, hgood, h⟩, fun h => h.2.2⟩)
  have f3 : ((i : Int) < L.length) = True := eq_true (by omega)
  have f4 : (i < L.length) = True := eq_true hi2
  refine vc_soundN 1000 ?_
  simp only [w1, w2, f3, f4, Int.toNat_natCast, ↓wPre, wA, ↓reduceIte, reduceIte, reduceCtorEq, Y1, Y2, Y3, Y4, Y5, Y6, Y7, Y8, Y9, YA, zA, qA, qC, vA, vC, wSeq, wN]
  refine call_fn (cat i (by omega)) rfl ?_
  simp only [w1, w2, ↓wPre, wA, ↓reduceIte, reduceIte, reduceCtorEq, Y1, Y2, Y3, Y4, Y5, Y6, Y7, Y8, Y9, YA, zA, qA, qC, vA, vC, wSeq, wN]
  refine call_fn (cat (i + 1) (by omega)) rfl ?_
  simp only [w1, w2, ↓wPre, wA, ↓reduceIte, reduceIte, reduceCtorEq, Y1, Y2, Y3, Y4, Y5, Y6, Y7, Y8, Y9, YA, zA, qA, qC, vA, vC, wSeq, wN]
  refine call_fn (cat (i + 2) (by omega)) rfl ?_
  simp only [w1, w2, ↓wPre, wA, ↓reduceIte, reduceIte, reduceCtorEq, Y1, Y2, Y3, Y4, Y5, Y6, Y7, Y8, Y9, YA, zA, qA, qC, vA, vC, wSeq, wN]
  refine call_fn (pside_fn _ _ _ (sm _) (sm _) (sm _)) rfl ?_
  by_cases hs : side (atF L i) (atF L (i + 1)) (atF L (i + 2)) = 0
  · have f5 : (side (atF L i) (atF L (i + 1)) (atF L (i + 2)) = 0) = True := eq_true hs
    simp only [f5, ↓wPre, wA, ↓reduceIte, reduceIte, reduceCtorEq, Y1, Y2, Y3, Y4, Y5, Y6, Y7, Y8, Y9, YA, zA, qA, qC, vA, vC, wSeq, wN]
    exact fin rfl (by rw [hV, decide_eq_false]; exact fun hp => (hp.2.1 i hi2).1 hs)
  have f5 : (side (atF L i) (atF L (i + 1)) (atF L (i + 2)) = 0) = False := eq_false hs
  simp only [f5, w1, w2, ↓wPre, wA, ↓reduceIte, reduceIte, reduceCtorEq, Y1, Y2, Y3, Y4, Y5, Y6, Y7, Y8, Y9, YA, zA, qA, qC, vA, vC, wSeq, wN]
  refine run_loop (fun k : Nat => ⟨9, [17, 18, 19, 35, 36], [.any, .ptr 1 (ofL [vecs L]) 0, .bool false, .ptr 1 (ofL [I L.length]) 0, .any, .any, .fn 178 [.ptr 1 (ofL [vecs L]) 0, .ptr 1 (ofL [I L.length]) 0], I i, I k], [(35, I L.length), (36, I i)], []⟩) (fun k => i + 2 ≤ k ∧ k ≤ L.length + 2 ∧ ∀ j, i + 2 ≤ j → j < k → j < L.length → ¬ badPair L i j) (fun k => L.length + 2 - k) (i + 2) ⟨by omega, by omega, by omega⟩
    (sub_mk rfl (by simp [subL, I]) (by simp [subT, look, I]) rfl) ?_
  rintro k ⟨hk1, hk2, hpair⟩ nextk
  have u1 := wj k (by omega)
  by_cases hk3 : k < L.length
  rotate_left
  · have g3 : ((k : Int) < L.length) = False := eq_false (by omega)
    have g4 : (k < L.length) = False := eq_false hk3
    refine vc_soundN 1000 ?_
    simp only [g3, g4, w1, ↓wPre, wA, ↓reduceIte, reduceIte, reduceCtorEq, Y1, Y2, Y3, Y4, Y5, Y6, Y7, Y8, Y9, YA, zA, qA, qC, vA, vC, wSeq, wN]
    refine next (i + 1) _ ⟨by omega, fun j hj => ?_⟩ (by omega) (sub_mk rfl (by simp [subL, I]) (by simp [subT, look, I]) rfl)
    by_cases hji : j < i
    · exact hgood j hji
    · obtain rfl : j = i := by omega
      exact ⟨hs, fun q hq1 hq2 => hpair q hq1 (by omega) hq2⟩
  have g3 : ((k : Int) < L.length) = True := eq_true (by omega)
  have g4 : (k < L.length) = True := eq_true hk3
  have hm : ((k + 1 : Nat) : Int).tmod L.length = (((k + 1) % L.length : Nat) : Int) := rfl
  have f6 : ((L.length : Int) = 0) = False := eq_false (by omega)
  have f6' : (L.length = 0) = False := eq_false hn0
  by_cases hne : (k + 1) % L.length = i
  · have g5 : ((k + 1) % L.length = i) = True := eq_true hne
    have g6 : ((((k + 1) % L.length : Nat) : Int) = (i : Int)) = True := eq_true (by omega)
    refine vc_soundN 1000 ?_
    simp only [g3, g4, g5, g6, w1, u1, hm, f6, f6', ↓wPre, wA, ↓reduceIte, reduceIte, reduceCtorEq, Y1, Y2, Y3, Y4, Y5, Y6, Y7, Y8, Y9, YA, zA, qA, qC, vA, vC, wSeq, wN]
    exact nextk (k + 1) _ ⟨by omega, by omega, fun j h1 h2 h3 => by
      by_cases hjk : j < k
      · exact hpair j h1 hjk h3
      · obtain rfl : j = k := by omega
        exact fun hb => hb.1 hne⟩ (by omega) (sub_mk rfl (by simp [subL, I]) (by simp [subT, look, I]) rfl)
  have g5 : ((k + 1) % L.length = i) = False := eq_false hne
  have g6 : ((((k + 1) % L.length : Nat) : Int) = (i : Int)) = False := eq_false (by omega)
  refine vc_soundN 1000 ?_
  simp only [g3, g4, g5, g6, w1, u1, hm, f6, f6', ↓wPre, wA, ↓reduceIte, reduceIte, reduceCtorEq, Y1, Y2, Y3, Y4, Y5, Y6, Y7, Y8, Y9, YA, zA, qA, qC, vA, vC, wSeq, wN]
  refine call_fn (cat i (by omega)) rfl ?_
  simp only [g5, g6, w1, u1, ↓wPre, wA, ↓reduceIte, reduceIte, reduceCtorEq, Y1, Y2, Y3, Y4, Y5, Y6, Y7, Y8, Y9, YA, zA, qA, qC, vA, vC, wSeq, wN]
  refine call_fn (cat (i + 1) (by omega)) rfl ?_
  simp only [g5, g6, w1, u1, ↓wPre, wA, ↓reduceIte, reduceIte, reduceCtorEq, Y1, Y2, Y3, Y4, Y5, Y6, Y7, Y8, Y9, YA, zA, qA, qC, vA, vC, wSeq, wN]
  refine call_fn (cat k (by omega)) rfl ?_
  simp only [g5, g6, w1, u1, ↓wPre, wA, ↓reduceIte, reduceIte, reduceCtorEq, Y1, Y2, Y3, Y4, Y5, Y6, Y7, Y8, Y9, YA, zA, qA, qC, vA, vC, wSeq, wN]
  refine call_fn (cat (k + 1) (by omega)) rfl ?_
  simp only [g5, g6, w1, u1, ↓wPre, wA, ↓reduceIte, reduceIte, reduceCtorEq, Y1, Y2, Y3, Y4, Y5, Y6, Y7, Y8, Y9, YA, zA, qA, qC, vA, vC, wSeq, wN]
  refine call_fn (meets_fn _ _ _ _ (sm _) (sm _) (sm _) (sm _)) rfl ?_
  by_cases hmt : meetsF (atF L i) (atF L (i + 1)) (atF L k) (atF L (k + 1)) = true
  · rw [hmt]
    simp only [g5, g6, ↓wPre, wA, ↓reduceIte, reduceIte, reduceCtorEq, Y1, Y2, Y3, Y4, Y5, Y6, Y7, Y8, Y9, YA, zA, qA, qC, vA, vC, wSeq, wN]
    exact fin rfl (by rw [hV, decide_eq_false]; exact fun hp => (hp.2.1 i hi2).2 k hk1 hk3 ⟨hne, hmt⟩)
  · have hmf := Bool.not_eq_true _ ▸ hmt
    rw [hmf]
    simp only [g5, g6, u1, ↓wPre, wA, ↓reduceIte, reduceIte, reduceCtorEq, Y1, Y2, Y3, Y4, Y5, Y6, Y7, Y8, Y9, YA, zA, qA, qC, vA, vC, wSeq, wN]
    exact nextk (k + 1) _ ⟨by omega, by omega, fun j h1 h2 h3 => by
      by_cases hjk : j < k
      · exact hpair j h1 hjk h3
      · obtain rfl : j = k := by omega
        exact fun hb => hmt hb.2⟩ (by omega) (sub_mk rfl (by simp [subL, I]) (by simp [subT, look, I]) rfl)
end
end Go.Ab.N
namespace Go.Ab.N
open Go Go.RowKit Go.Proofs
noncomputable section
set_option maxRecDepth 10000
set_option maxHeartbeats 2000000
open Classical

/-! ### Points, copies and comparisons of lists -/
def ptC (p : Int × Int) : List AV := [I p.1, I p.2]
def pts (l : List (Int × Int)) : AV := sls ptC 2 (0, 0) l
theorem settled_pts (l : List (Int × Int)) : Settled (pts l) := settled_sls fun a x hx => by
  have : ∀ x ∈ ptC a, Settled x := by simp [ptC, settled_I]
  exact this x hx
theorem pts_def (l : List (Int × Int)) : pts l = .sl l.length (l.length * 2) (slFs ptC 2 (0, 0) l) false := nrfl rfl
theorem bools_def (l : List Bool) : bools l = .sl l.length l.length (slF AV.bool false l) false := nrfl rfl
theorem ints_def (l : List Int) : ints l = .sl l.length l.length (slF I 0 l) false := nrfl rfl
theorem slFs_one {α : Type} (e : α → List AV) (s : Nat) (d : α) (l : List α) (j : Nat) (hs : 0 < s) (he : ∀ a, (e a).length = s ∧ ∀ x ∈ e a, x.one = true) : (slFs e s d l j).one = true := by
  have h := he (l.getD (j / s) d)
  have hj : j % s < (e (l.getD (j / s) d)).length := by rw [h.1]; exact Nat.mod_lt _ hs
  unfold slFs
  rw [List.getD_eq_getElem?_getD, List.getElem?_eq_getElem hj]
  exact h.2 _ (List.getElem_mem hj)
theorem settled_ptC (p : Int × Int) : ∀ x ∈ ptC p, Settled x := by simp [ptC, settled_I]
theorem ptF (l : List (Int × Int)) (i : Nat) : slFs ptC 2 (0, 0) l (i * 2) = I (l.getD i (0, 0)).1 ∧ slFs ptC 2 (0, 0) l (i * 2 + 1) = I (l.getD i (0, 0)).2 := by
  refine ⟨?_, ?_⟩
  · rw [slFs_at0 _ _ _ _ _ (by omega)]; rfl
  · rw [slFs_at _ _ _ _ _ _ (by omega)]; rfl
theorem appF_0 (f : Nat → AV) (m : Nat) (g : Nat → AV) (j : Nat) : appF 0 f m g j = if j < m then g j else f j := by simp [appF]
theorem clone_ret {P : Program} {fn : Func} {str hcs : List Nat} {s : AS} {t n m es ver id : Nat} {f g : Nat → AV} (hr : fn.results = #[.tmp t]) (hs : s.get t = .osl id ver es 0 n) (ho : s.h[id]? = some (.row ver m (appF 0 f m g))) (hn : n = 0 → m = 0) (hg : ∀ j, j < m → Settled (g j)) :
    RetOk (envP P fn str hcs (.sl n m g false)) s := by
  refine ret1 hr ?_
  rw [hs]
  refine sees_osl (.inl ho) (by omega) hn fun j hj => ?_
  rw [Nat.zero_add, appF_0, if_pos hj]
  exact (hg j hj).sees _
theorem clone_ret0 {P : Program} {fn : Func} {str hcs : List Nat} {s : AS} {t : Nat} {f g : Nat → AV} {b : Bool} (hr : fn.results = #[.tmp t]) (hs : s.get t = .sl 0 0 f b) : RetOk (envP P fn str hcs (.sl 0 0 g false)) s := by
  refine ret1 hr ?_
  rw [hs]
  exact sees_empty
theorem clonei_fn (l : List Int) (hl : l.length < 1000000) : Fn Tryz.prog 82 [ints l] (ints l) := by
  refine Fn.intro (fn := Tryz.f82) Tryz.call82 Tryz.func82 rfl mixed 3 [] [] [] (by kernel_rfl) (Nat.le_of_ble_eq_true rfl) (by simp [settled_ints]) (vc_soundN 1000 ?_)
  simp only [AS.start, ints_def, ↓wPre, wA, ↓reduceIte, reduceIte, reduceCtorEq, Y1, Y2, Y3, Y4, Y5, Y6, Y7, Y8, Y9, YA, zA, qA, qC, vA, vC, wSeq, wN]
  have hb : l.length * 8 ≤ 140737488355328 ∧ l.length ≤ 9223372036854775807 := ⟨by omega, by omega⟩
  have hc : RetT (envP Tryz.prog Tryz.f82 [] [] (ints l)) .mk ⟨3, [], [ints l, .any, .osl 0 0 1 0 l.length], [(7, .osl 0 0 1 0 l.length), (6, ints l), (5, .sl 0 0 (ofL []) true)], [.row 0 (l.length) (appF 0 (ofL []) (l.length) (slF I 0 l))]⟩ := by
    rw [ints_def]
    exact clone_ret rfl rfl rfl (fun h => by rw [h]) fun j hj => settled_I _
  by_cases h0 : l.length = 0
  · rw [if_pos h0, cAt_abool]
    refine ⟨?_, hb, hc⟩
    have e : l = [] := List.eq_nil_of_length_eq_zero h0
    subst e
    exact clone_ret0 rfl rfl
  · rw [if_neg h0, cAt_bool, guardP_false]
    exact ⟨hb, hc⟩
theorem cloneb_fn (l : List Bool) (hl : l.length < 1000000) : Fn Tryz.prog 81 [bools l] (bools l) := by
  refine Fn.intro (fn := Tryz.f81) Tryz.call81 Tryz.func81 rfl mixed 3 [] [] [] (by kernel_rfl) (Nat.le_of_ble_eq_true rfl) (by simp [settled_bools]) (vc_soundN 1000 ?_)
  simp only [AS.start, bools_def, ↓wPre, wA, ↓reduceIte, reduceIte, reduceCtorEq, Y1, Y2, Y3, Y4, Y5, Y6, Y7, Y8, Y9, YA, zA, qA, qC, vA, vC, wSeq, wN]
  have hb : l.length ≤ 140737488355328 ∧ l.length ≤ 9223372036854775807 := ⟨by omega, by omega⟩
  have hc : RetT (envP Tryz.prog Tryz.f81 [] [] (bools l)) .mk ⟨3, [], [bools l, .any, .osl 0 0 1 0 l.length], [(7, .osl 0 0 1 0 l.length), (6, bools l), (5, .sl 0 0 (ofL []) true)], [.row 0 (l.length) (appF 0 (ofL []) (l.length) (slF AV.bool false l))]⟩ := by
    rw [bools_def]
    exact clone_ret rfl rfl rfl (fun h => by rw [h]) fun j hj => settled_bool _
  by_cases h0 : l.length = 0
  · rw [if_pos h0, cAt_abool]
    refine ⟨?_, hb, hc⟩
    have e : l = [] := List.eq_nil_of_length_eq_zero h0
    subst e
    exact clone_ret0 rfl rfl
  · rw [if_neg h0, cAt_bool, guardP_false]
    exact ⟨hb, hc⟩
theorem clonep_fn (l : List (Int × Int)) (hl : l.length < 1000000) : Fn Tryz.prog 80 [pts l] (pts l) := by
  refine Fn.intro (fn := Tryz.f80) Tryz.call80 Tryz.func80 rfl mixed 3 [] [] [] (by kernel_rfl) (Nat.le_of_ble_eq_true rfl) (by simp [settled_pts]) (vc_soundN 1000 ?_)
  simp only [AS.start, pts_def, ↓wPre, wA, ↓reduceIte, reduceIte, reduceCtorEq, Y1, Y2, Y3, Y4, Y5, Y6, Y7, Y8, Y9, YA, zA, qA, qC, vA, vC, wSeq, wN]
  have hb : ((∀ (j : Nat), j < l.length * 2 → (slFs ptC 2 (0, 0) l j).one = true) ∧ l.length * 16 ≤ 140737488355328 ∧ l.length ≤ 9223372036854775807) := ⟨fun j _ => slFs_one _ _ _ _ _ (by omega) fun a => ⟨rfl, by simp [ptC, I, AV.one]⟩, by omega, by omega⟩
  have hc : RetT (envP Tryz.prog Tryz.f80 [] [] (pts l)) .mk ⟨3, [], [pts l, .any, .osl 0 0 2 0 l.length], [(7, .osl 0 0 2 0 l.length), (6, pts l), (5, .sl 0 0 (ofL []) true)], [.row 0 (l.length * 2) (appF 0 (ofL []) (l.length * 2) (slFs ptC 2 (0, 0) l))]⟩ := by
    rw [pts_def]
    exact clone_ret rfl rfl rfl (fun h => by rw [h]) fun j hj => settled_cells (settled_ptC _) _
  by_cases h0 : l.length = 0
  · rw [if_pos h0, cAt_abool]
    refine ⟨?_, hb, hc⟩
    have e : l = [] := List.eq_nil_of_length_eq_zero h0
    subst e
    exact clone_ret0 rfl rfl
  · rw [if_neg h0, cAt_bool, guardP_false]
    exact ⟨hb, hc⟩
theorem eqBools_fn (a b : List Bool) (la : a.length < 4611686018427387904) (lb : b.length < 4611686018427387904) : Fn Tryz.prog 176 [bools a, bools b] (.bool (decide (a = b))) := by
  obtain ⟨V, hV⟩ : ∃ V, V = decide (a = b) := ⟨_, rfl⟩
  rw [← hV]
  refine Fn.intro (fn := Tryz.f176) Tryz.call176 Tryz.func176 rfl mixed 6 [11, 12, 13] [] [] (by kernel_rfl) (Nat.le_of_ble_eq_true rfl) (by simp [settled_bools]) (vc_soundN 1000 ?_)
  by_cases hl : a.length = b.length
  · have f1 : ((a.length : Int) = b.length) = True := eq_true (by omega)
    have f1' : (a.length = b.length) = True := eq_true hl
    simp only [AS.start, bools_def, f1, f1', ↓wPre, wA, ↓reduceIte, reduceIte, reduceCtorEq, Y1, Y2, Y3, Y4, Y5, Y6, Y7, Y8, Y9, YA, zA, qA, qC, vA, vC, wSeq, wN]
    refine run_loop (fun j : Nat => ⟨6, [11, 12, 13], [bools a, bools b, .any, .any, .any, .any], [(11, bools a), (12, I a.length), (13, I j)], []⟩) (fun j => j ≤ a.length ∧ ∀ i, i < j → a.getD i false = b.getD i false) (fun j => a.length - j) 0 ⟨by omega, by omega⟩
      (sub_mk rfl (by simp [subL, bools, sl1, I, hl]) (by simp [subT, look, bools, sl1, I, hl]) rfl) ?_
    rintro j ⟨hj, hno⟩ next
    have w1 := wj j (by omega)
    by_cases hj2 : j < a.length
    · have f2 : ((j : Int) < a.length) = True := eq_true (by omega)
      have f3 : (j < a.length) = True := eq_true hj2
      have f4 : (j < b.length) = True := eq_true (by omega)
      refine vc_soundN 1000 ?_
      simp only [bools_def, w1, f2, f3, f4, ↓wPre, wA, ↓reduceIte, reduceIte, reduceCtorEq, Y1, Y2, Y3, Y4, Y5, Y6, Y7, Y8, Y9, YA, zA, qA, qC, vA, vC, wSeq, wN]
      refine ⟨fun h => ret1E (v := .bool false) rfl rfl (settled_bool _) ?_, fun h => next (j + 1) _ ⟨by omega, fun i hi => ?_⟩ (by omega) (sub_mk rfl (by simp [subL, bools, sl1, I]) (by simp [subT, look, bools, sl1, I]) rfl)⟩
      · rw [hV, decide_eq_false fun e => by rw [e] at h; simp at h]
      · by_cases e : i = j
        · rw [e]; simpa using h
        · exact hno i (by omega)
    · have f2 : ((j : Int) < a.length) = False := eq_false (by omega)
      have f3 : (j < a.length) = False := eq_false hj2
      refine vc_soundN 1000 ?_
      simp only [bools_def, w1, f2, f3, ↓wPre, wA, ↓reduceIte, reduceIte, reduceCtorEq, Y1, Y2, Y3, Y4, Y5, Y6, Y7, Y8, Y9, YA, zA, qA, qC, vA, vC, wSeq, wN]
      refine ret1E (v := .bool true) rfl rfl (settled_bool _) ?_
      rw [hV, decide_eq_true]
      refine List.ext_getElem hl fun i h1 h2 => ?_
      have := hno i (by omega)
      rw [List.getD_eq_getElem?_getD, List.getElem?_eq_getElem h1, List.getD_eq_getElem?_getD, List.getElem?_eq_getElem h2] at this
      exact this
  · have f1 : ((a.length : Int) = b.length) = False := eq_false (by omega)
    have f1' : (a.length = b.length) = False := eq_false hl
    simp only [AS.start, bools_def, f1, f1', ↓wPre, wA, ↓reduceIte, reduceIte, reduceCtorEq, Y1, Y2, Y3, Y4, Y5, Y6, Y7, Y8, Y9, YA, zA, qA, qC, vA, vC, wSeq, wN]
    refine ret1E (v := .bool false) rfl rfl (settled_bool _) ?_
    rw [hV, decide_eq_false fun e => hl (by rw [e])]

theorem eqPts_fn (a b : List (Int × Int)) (la : a.length < 4611686018427387904) (lb : b.length < 4611686018427387904) : Fn Tryz.prog 175 [pts a, pts b] (.bool (decide (a = b))) := by
  obtain ⟨V, hV⟩ : ∃ V, V = decide (a = b) := ⟨_, rfl⟩
  rw [← hV]
  refine Fn.intro (fn := Tryz.f175) Tryz.call175 Tryz.func175 rfl mixed 6 [11, 12, 13] [] [] (by kernel_rfl) (Nat.le_of_ble_eq_true rfl) (by simp [settled_pts]) (vc_soundN 1000 ?_)
  by_cases hl : a.length = b.length
  · have f1 : ((a.length : Int) = b.length) = True := eq_true (by omega)
    have f1' : (a.length = b.length) = True := eq_true hl
    simp only [AS.start, pts_def, f1, f1', ↓wPre, wA, ↓reduceIte, reduceIte, reduceCtorEq, Y1, Y2, Y3, Y4, Y5, Y6, Y7, Y8, Y9, YA, zA, qA, qC, vA, vC, wSeq, wN]
    refine run_loop (fun j : Nat => ⟨6, [11, 12, 13], [pts a, pts b, .any, .any, .any, .any], [(11, pts a), (12, I a.length), (13, I j)], []⟩) (fun j => j ≤ a.length ∧ ∀ i, i < j → a.getD i (0, 0) = b.getD i (0, 0)) (fun j => a.length - j) 0 ⟨by omega, by omega⟩
      (sub_mk rfl (by simp [subL, pts_def, sl1, I, hl]) (by simp [subT, look, pts_def, sl1, I, hl]) rfl) ?_
    rintro j ⟨hj, hno⟩ next
    have w1 := wj j (by omega)
    by_cases hj2 : j < a.length
    · have f2 : ((j : Int) < a.length) = True := eq_true (by omega)
      have f3 : (j < a.length) = True := eq_true hj2
      have f4 : (j < b.length) = True := eq_true (by omega)
      have f5 : (j * 2 + 2 ≤ a.length * 2) = True := eq_true (by omega)
      have f6 : (j * 2 + 2 ≤ b.length * 2) = True := eq_true (by omega)
      have v1 := ptF a j
      have v2 := ptF b j
      by_cases hx : (a.getD j (0, 0)).1 = (b.getD j (0, 0)).1
      rotate_left
      · have g1 : ((a.getD j (0, 0)).1 = (b.getD j (0, 0)).1) = False := eq_false hx
        refine vc_soundN 1000 ?_
        simp only [pts_def, w1, f2, f3, f4, f5, f6, v1, v2, g1, ↓wPre, wA, ↓reduceIte, reduceIte, reduceCtorEq, Y1, Y2, Y3, Y4, Y5, Y6, Y7, Y8, Y9, YA, zA, qA, qC, vA, vC, wSeq, wN]
        refine ret1E (v := .bool false) rfl rfl (settled_bool _) ?_
        rw [hV, decide_eq_false fun e => hx (by rw [e])]
      have g1 : ((a.getD j (0, 0)).1 = (b.getD j (0, 0)).1) = True := eq_true hx
      by_cases hy : (a.getD j (0, 0)).2 = (b.getD j (0, 0)).2
      rotate_left
      · have g2 : ((a.getD j (0, 0)).2 = (b.getD j (0, 0)).2) = False := eq_false hy
        refine vc_soundN 1000 ?_
        simp only [pts_def, w1, f2, f3, f4, f5, f6, v1, v2, g1, g2, ↓wPre, wA, ↓reduceIte, reduceIte, reduceCtorEq, Y1, Y2, Y3, Y4, Y5, Y6, Y7, Y8, Y9, YA, zA, qA, qC, vA, vC, wSeq, wN]
        refine ret1E (v := .bool false) rfl rfl (settled_bool _) ?_
        rw [hV, decide_eq_false fun e => hy (by rw [e])]
      have g2 : ((a.getD j (0, 0)).2 = (b.getD j (0, 0)).2) = True := eq_true hy
      refine vc_soundN 1000 ?_
      simp only [pts_def, w1, f2, f3, f4, f5, f6, v1, v2, g1, g2, ↓wPre, wA, ↓reduceIte, reduceIte, reduceCtorEq, Y1, Y2, Y3, Y4, Y5, Y6, Y7, Y8, Y9, YA, zA, qA, qC, vA, vC, wSeq, wN]
      refine next (j + 1) _ ⟨by omega, fun i hi => ?_⟩ (by omega) (sub_mk rfl (by simp [subL, pts_def, sl1, I]) (by simp [subT, look, pts_def, sl1, I]) rfl)
      by_cases e : i = j
      · rw [e]; exact Prod.ext hx hy
      · exact hno i (by omega)
    · have f2 : ((j : Int) < a.length) = False := eq_false (by omega)
      have f3 : (j < a.length) = False := eq_false hj2
      refine vc_soundN 1000 ?_
      simp only [pts_def, w1, f2, f3, ↓wPre, wA, ↓reduceIte, reduceIte, reduceCtorEq, Y1, Y2, Y3, Y4, Y5, Y6, Y7, Y8, Y9, YA, zA, qA, qC, vA, vC, wSeq, wN]
      refine ret1E (v := .bool true) rfl rfl (settled_bool _) ?_
      rw [hV, decide_eq_true]
      refine List.ext_getElem hl fun i h1 h2 => ?_
      have := hno i (by omega)
      rw [List.getD_eq_getElem?_getD, List.getElem?_eq_getElem h1, List.getD_eq_getElem?_getD, List.getElem?_eq_getElem h2] at this
      exact this
  · have f1 : ((a.length : Int) = b.length) = False := eq_false (by omega)
    have f1' : (a.length = b.length) = False := eq_false hl
    simp only [AS.start, pts_def, f1, f1', ↓wPre, wA, ↓reduceIte, reduceIte, reduceCtorEq, Y1, Y2, Y3, Y4, Y5, Y6, Y7, Y8, Y9, YA, zA, qA, qC, vA, vC, wSeq, wN]
    refine ret1E (v := .bool false) rfl rfl (settled_bool _) ?_
    rw [hV, decide_eq_false fun e => hl (by rw [e])]

theorem zA_u (z : Int) : zA z = .agg [.bool (decide (z < 0)), ints (digs z.natAbs)] := nrfl rfl
theorem vC_u (v : V2) : vC v = [.bool (decide (v.x.num < 0)), ints (digs v.x.num.natAbs), .bool false, ints (digs (qd v.x)), .bool (decide (v.y.num < 0)), ints (digs v.y.num.natAbs), .bool false, ints (digs (qd v.y))] := nrfl rfl
theorem vA_u (v : V2) : vA v = .agg (vC v) := nrfl rfl
theorem qC_u (r : Rat) : qC r = [.bool (decide (r.num < 0)), ints (digs r.num.natAbs), .bool false, ints (digs (qd r))] := nrfl rfl
theorem qA_u (r : Rat) : qA r = .agg (qC r) := nrfl rfl
set_option linter.defProp false in
def wE := And.intro @zA_u (And.intro @vC_u (And.intro @vA_u (And.intro @qC_u (And.intro @qA_u (And.intro @pts_def (And.intro @bools_def (And.intro wSeq wN)))))))
end
end Go.Ab.N
namespace Go.Ab.N
open Go Go.RowKit Go.Proofs
noncomputable section
set_option maxRecDepth 10000
set_option maxHeartbeats 2000000
open Classical

/-! ### Pieces -/
structure PV where
  id : Int
  home : Int
  rim : List (Int × Int)
  worn : List Bool
  marks : List Int
  tol : RQ
  light : RQ
  heavy : RQ
  strength : RQ
  rough : RQ
def pvC (p : PV) : List AV := [I p.id, I p.home, pts p.rim, bools p.worn, ints p.marks, .bool p.tol.pn, ints p.tol.pd, .bool p.tol.qn, ints p.tol.qd, .bool p.light.pn, ints p.light.pd, .bool p.light.qn, ints p.light.qd,
  .bool p.heavy.pn, ints p.heavy.pd, .bool p.heavy.qn, ints p.heavy.qd, .bool p.strength.pn, ints p.strength.pd, .bool p.strength.qn, ints p.strength.qd, .bool p.rough.pn, ints p.rough.pd, .bool p.rough.qn, ints p.rough.qd]
def pvA (p : PV) : AV := .agg (pvC p)
theorem settled_pvA (p : PV) : Settled (pvA p) := settled_agg (by simp [pvC, settled_I, settled_pts, settled_bools, settled_ints, settled_bool])
/-- The five numbers of a piece. -/
def numC (p : PV) : List AV := [.bool p.tol.pn, ints p.tol.pd, .bool p.tol.qn, ints p.tol.qd, .bool p.light.pn, ints p.light.pd, .bool p.light.qn, ints p.light.qd,
  .bool p.heavy.pn, ints p.heavy.pd, .bool p.heavy.qn, ints p.heavy.qd, .bool p.strength.pn, ints p.strength.pd, .bool p.strength.qn, ints p.strength.qd, .bool p.rough.pn, ints p.rough.pd, .bool p.rough.qn, ints p.rough.qd]
def PV.num (p : PV) : Nat → RQ
  | 0 => p.tol
  | 1 => p.light
  | 2 => p.heavy
  | 3 => p.strength
  | _ => p.rough
theorem numbers_fn (p : PV) : Fn Tryz.prog 89 [pvA p] (.agg (numC p)) := by
  have sR : Settled (.agg (numC p)) := settled_agg (by simp [numC, settled_ints, settled_bool])
  refine Fn.intro (fn := Tryz.f89) Tryz.call89 Tryz.func89 rfl mixed 3 [] [] [] (by kernel_rfl) (Nat.le_of_ble_eq_true rfl) (by simp [settled_pvA]) (vc_soundN 1000 ?_)
  simp only [AS.start, pvA, pvC, ↓wPre, wA, ↓reduceIte, reduceIte, reduceCtorEq, Y1, Y2, Y3, Y4, Y5, Y6, Y7, Y8, Y9, YA, wE]
  exact retV rfl ldk114 rfl rfl rfl sR rfl
theorem belO_set {m v n : Nat} {L : List AV} (h : ∀ x ∈ L, Settled x) : belO m (.row v n (ofL L)) := fun j _ => bel_of_settled (settled_cells h j)
theorem settled_pvC (p : PV) : ∀ x ∈ pvC p, Settled x := by simp [pvC, settled_I, settled_pts, settled_bools, settled_ints, settled_bool]
def wb (n lo hi : Int) : Bool := decide (lo ≤ n) && decide (n ≤ hi)
theorem within_fn (n lo hi : Int) : Fn Tryz.prog 177 [I n, I lo, I hi] (.bool (wb n lo hi)) := by
  unfold wb
  refine Fn.intro (fn := Tryz.f177) Tryz.call177 Tryz.func177 rfl mixed 6 [] [] [] (by kernel_rfl) (Nat.le_of_ble_eq_true rfl) (by simp [settled_ints, settled_I, settled_fn0, settled_intss, settled_bool, settled_nil, settled_zA, settled_qA, settled_vA, settled_zR, settled_ofA, settled_int, settled_pts, settled_bools]) (vc_soundN 1000 ?_); simp (config := { maxSteps := 2000000 }) only [AS.start, ↓wPre, wA, ↓reduceIte, reduceIte, reduceCtorEq, Y1, Y2, Y3, Y4, Y5, Y6, Y7, Y8, Y9, YA, wE]
  refine ⟨fun h => ret1E rfl rfl (settled_bool _) (by rw [decide_eq_true h]; rfl), fun h => ret1E rfl rfl (settled_bool _) (by rw [decide_eq_false h]; rfl)⟩
def ptOk (c : Int × Int) : Bool := wb c.1 (-65536) 65536 && wb c.2 (-65536) 65536
def markOk (m : Int) : Bool := wb m 0 1024
/-- A piece with all integers in range. -/
def rangeOk (p : PV) : Prop := (∀ i, i < p.rim.length → ptOk (p.rim.getD i (0, 0)) = true) ∧ (∀ i, i < p.marks.length → markOk (p.marks.getD i 0) = true) ∧ wb p.id 0 999 = true ∧ wb p.home 0 4 = true
theorem inRange_fn (p : PV) (hr : p.rim.length < 1000000) (hm : p.marks.length < 1000000) : Fn Tryz.prog 88 [pvA p] (.bool (decide (rangeOk p))) := by
  obtain ⟨V, hV⟩ : ∃ V, V = decide (rangeOk p) := ⟨_, rfl⟩
  have bp : Bel 1 (pts p.rim) = True := eq_true (bel_of_settled (settled_pts _))
  have bm : Bel 1 (ints p.marks) = True := eq_true (bel_of_settled (settled_ints _))
  have bo : belO 1 (.row 0 25 (ofL (pvC p))) = True := eq_true (belO_set (settled_pvC p))
  have fin : ∀ {s : AS} {v : Bool}, s.get 2 = .bool v → v = V → RetOk (envP Tryz.prog Tryz.f88 [] [] (.bool V)) s := fun h e => ret1E rfl h (settled_bool _) (by rw [e])
  rw [← hV]
  refine Fn.intro (fn := Tryz.f88) Tryz.call88 Tryz.func88 rfl mixed 7 [8, 9, 10, 26, 27, 28] [] [] (by kernel_rfl) (Nat.le_of_ble_eq_true rfl) (by simp [settled_pvA]) (vc_soundN 1000 ?_)
  simp only [AS.start, pvA, pvC, ↓wPre, wA, ↓reduceIte, reduceIte, reduceCtorEq, Y1, Y2, Y3, Y4, Y5, Y6, Y7, Y8, Y9, YA, wE]
  refine run_loop (fun i : Nat => ⟨7, [8, 9, 10, 26, 27, 28], [.any, .ref 0 0 0, .bool false, .any, .any, .any, .any], [(8, pts p.rim), (9, I p.rim.length), (10, I i)], [.row 0 25 (ofL (pvC p))]⟩) (fun i => i ≤ p.rim.length ∧ ∀ j, j < i → ptOk (p.rim.getD j (0, 0)) = true) (fun i => p.rim.length - i) 0 ⟨by omega, by omega⟩
    (sub_mk rfl (by simp [subL]) (by simp [subT, look, pts_def, I]) (by simp [pvC, pts_def, bools_def, ints_def, I])) ?_
  rintro i ⟨hi, hok⟩ next
  have w1 := wj i (by omega)
  by_cases hi2 : i < p.rim.length
  · have f1 : ((i : Int) < p.rim.length) = True := eq_true (by omega)
    have f2 : (i < p.rim.length) = True := eq_true hi2
    have f3 : (i * 2 + 2 ≤ p.rim.length * 2) = True := eq_true (by omega)
    have v1 := ptF p.rim i
    have c1 := within_fn (p.rim.getD i (0, 0)).1 (-65536) 65536
    have c2 := within_fn (p.rim.getD i (0, 0)).2 (-65536) 65536
    have bad : ptOk (p.rim.getD i (0, 0)) = false → V = false := fun h => by
      rw [hV, decide_eq_false]
      intro hp
      have := hp.1 i hi2
      rw [h] at this; cases this
    refine vc_soundN 1000 ?_
    simp only [pvC, w1, f1, f2, f3, v1, Int.toNat_natCast, ↓wPre, wA, ↓reduceIte, reduceIte, reduceCtorEq, Y1, Y2, Y3, Y4, Y5, Y6, Y7, Y8, Y9, YA, wE]
    refine call_fn c1 rfl ?_
    by_cases h1 : wb (p.rim.getD i (0, 0)).1 (-65536) 65536 = true
    rotate_left
    · rw [Bool.not_eq_true] at h1
      rw [h1]
      simp only [w1, ↓wPre, wA, ↓reduceIte, reduceIte, reduceCtorEq, Y1, Y2, Y3, Y4, Y5, Y6, Y7, Y8, Y9, YA, wE]
      exact fin rfl (bad (by unfold ptOk; rw [h1]; rfl)).symm
    rw [h1]
    simp only [w1, ↓wPre, wA, ↓reduceIte, reduceIte, reduceCtorEq, Y1, Y2, Y3, Y4, Y5, Y6, Y7, Y8, Y9, YA, wE]
    refine call_fn c2 rfl ?_
    by_cases h2 : wb (p.rim.getD i (0, 0)).2 (-65536) 65536 = true
    rotate_left
    · rw [Bool.not_eq_true] at h2
      rw [h2]
      simp only [w1, ↓wPre, wA, ↓reduceIte, reduceIte, reduceCtorEq, Y1, Y2, Y3, Y4, Y5, Y6, Y7, Y8, Y9, YA, wE]
      exact fin rfl (bad (by unfold ptOk; rw [h1, h2]; rfl)).symm
    rw [h2]
    simp only [w1, ↓wPre, wA, ↓reduceIte, reduceIte, reduceCtorEq, Y1, Y2, Y3, Y4, Y5, Y6, Y7, Y8, Y9, YA, wE]
    refine next (i + 1) _ ⟨by omega, fun j hj => ?_⟩ (by omega) (sub_cut (m := 1) (Nat.zero_le _) rfl (by simp [subL]) (by simp [subT, look, pts_def, I]) (by simp [pvC, pts_def, bools_def, ints_def, I]) (by simp [wBel]) (by simp [wBel, bp]) (by simp [bo]))
    by_cases hji : j < i
    · exact hok j hji
    · obtain rfl : j = i := by omega
      unfold ptOk; rw [h1, h2]; rfl
  obtain rfl : i = p.rim.length := by omega
  refine vc_soundN 1000 ?_
  simp only [pvC, Int.lt_irrefl, Nat.lt_irrefl, ↓wPre, wA, ↓reduceIte, reduceIte, reduceCtorEq, Y1, Y2, Y3, Y4, Y5, Y6, Y7, Y8, Y9, YA, wE]
  refine run_loop (fun i : Nat => ⟨7, [8, 9, 10, 26, 27, 28], [.any, .ref 0 0 0, .bool false, .any, .any, .any, .any], [(26, ints p.marks), (27, I p.marks.length), (28, I i)], [.row 0 25 (ofL (pvC p))]⟩) (fun i => i ≤ p.marks.length ∧ ∀ j, j < i → markOk (p.marks.getD j 0) = true) (fun i => p.marks.length - i) 0 ⟨by omega, by omega⟩
    (sub_mk rfl (by simp [subL]) (by simp [subT, look, ints_def, I]) (by simp [pvC, pts_def, bools_def, ints_def, I])) ?_
  rintro i ⟨hi, hmk⟩ next
  have w1 := wj i (by omega)
  by_cases hi2 : i < p.marks.length
  · have f1 : ((i : Int) < p.marks.length) = True := eq_true (by omega)
    have f2 : (i < p.marks.length) = True := eq_true hi2
    have c1 := within_fn (p.marks.getD i 0) 0 1024
    refine vc_soundN 1000 ?_
    simp only [pvC, w1, f1, f2, ints_def, Int.toNat_natCast, ↓wPre, wA, ↓reduceIte, reduceIte, reduceCtorEq, Y1, Y2, Y3, Y4, Y5, Y6, Y7, Y8, Y9, YA, wE]
    refine call_fn c1 rfl ?_
    by_cases h1 : wb (p.marks.getD i 0) 0 1024 = true
    rotate_left
    · rw [Bool.not_eq_true] at h1
      rw [h1]
      simp only [w1, ↓wPre, wA, ↓reduceIte, reduceIte, reduceCtorEq, Y1, Y2, Y3, Y4, Y5, Y6, Y7, Y8, Y9, YA, wE]
      refine fin rfl ?_
      rw [hV, decide_eq_false]
      intro hp
      have := hp.2.1 i hi2
      unfold markOk at this
      rw [h1] at this; cases this
    rw [h1]
    simp only [w1, ↓wPre, wA, ↓reduceIte, reduceIte, reduceCtorEq, Y1, Y2, Y3, Y4, Y5, Y6, Y7, Y8, Y9, YA, wE]
    refine next (i + 1) _ ⟨by omega, fun j hj => ?_⟩ (by omega) (sub_cut (m := 1) (Nat.zero_le _) rfl (by simp [subL]) (by simp [subT, look, ints_def, I]) (by simp [pvC, pts_def, bools_def, ints_def, I]) (by simp [wBel]) (by simp [wBel, bm]) (by simp [bo]))
    by_cases hji : j < i
    · exact hmk j hji
    · obtain rfl : j = i := by omega
      exact h1
  obtain rfl : i = p.marks.length := by omega
  have c1 := within_fn p.id 0 999
  have c2 := within_fn p.home 0 4
  refine vc_soundN 1000 ?_
  simp only [pvC, ints_def, Int.lt_irrefl, Nat.lt_irrefl, ↓wPre, wA, ↓reduceIte, reduceIte, reduceCtorEq, Y1, Y2, Y3, Y4, Y5, Y6, Y7, Y8, Y9, YA, wE]
  refine call_fn c1 rfl ?_
  by_cases h1 : wb p.id 0 999 = true
  rotate_left
  · rw [Bool.not_eq_true] at h1
    rw [h1]
    simp only [↓wPre, wA, ↓reduceIte, reduceIte, reduceCtorEq, Y1, Y2, Y3, Y4, Y5, Y6, Y7, Y8, Y9, YA, wE]
    refine fin rfl ?_
    rw [hV, decide_eq_false]
    intro hp
    have := hp.2.2.1
    rw [h1] at this; cases this
  rw [h1]
  simp only [↓wPre, wA, ↓reduceIte, reduceIte, reduceCtorEq, Y1, Y2, Y3, Y4, Y5, Y6, Y7, Y8, Y9, YA, wE]
  refine call_fn c2 rfl ?_
  simp only [↓wPre, wA, ↓reduceIte, reduceIte, reduceCtorEq, Y1, Y2, Y3, Y4, Y5, Y6, Y7, Y8, Y9, YA, wE]
  refine fin rfl ?_
  rw [hV]
  by_cases h2 : wb p.home 0 4 = true
  · rw [h2, decide_eq_true ⟨hok, hmk, h1, h2⟩]
  · rw [Bool.not_eq_true] at h2
    rw [h2, decide_eq_false]
    intro hp
    have := hp.2.2.2
    rw [h2] at this; cases this
end
end Go.Ab.N
namespace Go.Ab.N
open Go Go.RowKit Go.Proofs
noncomputable section
set_option maxRecDepth 10000
set_option maxHeartbeats 2000000
open Classical

/-! ### The rim of a piece as vectors -/
theorem appFs_one {α : Type} (e : α → List AV) (s : Nat) (d : α) (l : List α) (x : α) (hs : 0 < s) : appF (l.length * s) (slFs e s d l) s (ofL (e x)) = slFs e s d (l ++ [x]) := by
  funext j
  unfold appF slFs ofL
  by_cases h1 : j < l.length * s
  · have : j / s < l.length := by rw [Nat.div_lt_iff_lt_mul hs]; exact h1
    have e1 : (l ++ [x]).getD (j / s) d = l.getD (j / s) d := by rw [List.getD_eq_getElem?_getD, List.getD_eq_getElem?_getD, List.getElem?_append_left this]
    rw [if_pos h1, e1]
  · rw [if_neg h1]
    by_cases h2 : j < l.length * s + s
    · rw [if_pos h2]
      have hj : j / s = l.length := by
        refine Nat.div_eq_of_lt_le (by omega) ?_
        rw [Nat.add_mul]; omega
      have hm : j % s = j - l.length * s := by
        have := Nat.div_add_mod j s
        rw [hj, Nat.mul_comm] at this
        omega
      rw [hj, hm]
      simp
    · rw [if_neg h2]
      have hj : l.length + 1 ≤ j / s := by
        rw [Nat.le_div_iff_mul_le hs, Nat.add_mul]; omega
      have e1 : (l ++ [x]).getD (j / s) d = d := by rw [List.getD_eq_getElem?_getD, List.getElem?_eq_none (by simp; omega)]; rfl
      have e2 : l.getD (j / s) d = d := by rw [List.getD_eq_getElem?_getD, List.getElem?_eq_none (by omega)]; rfl
      rw [e1, e2]
def ptV (c : Int × Int) : V2 := ⟨c.1, c.2⟩
def rimV (l : List (Int × Int)) : List V2 := l.map ptV
theorem take_succD {α : Type} (l : List α) (d : α) {i : Nat} (h : i < l.length) : l.take (i + 1) = l.take i ++ [l.getD i d] := by
  rw [List.take_succ_eq_append_getElem h, List.getD_eq_getElem?_getD, List.getElem?_eq_getElem h]; rfl
theorem rim_fn (p : PV) (hl : p.rim.length < 1000000) (hr : ∀ i, i < p.rim.length → ptOk (p.rim.getD i (0, 0)) = true) : Fn Tryz.prog 54 [pvA p] (vecs (rimV p.rim)) := by
  obtain ⟨R, hR⟩ : ∃ R, R = vecs (rimV p.rim) := ⟨_, rfl⟩
  have sR : Settled R := hR ▸ settled_vecs _
  have bp : Bel 2 (pts p.rim) = True := eq_true (bel_of_settled (settled_pts _))
  have bo : belO 2 (.row 0 25 (ofL (pvC p))) = True := eq_true (belO_set (settled_pvC p))
  have hvc : ∀ a : V2, ∀ x ∈ vC a, Settled x := fun a => by simp [vC, settled_ints, settled_bool]
  have br : ∀ i l n, belO 2 (.row i n (slFs vC 8 v0 l)) = True := fun i l n => eq_true fun j _ => bel_of_settled (settled_cells (hvc _) _)
  rw [← hR]
  refine Fn.intro (fn := Tryz.f54) Tryz.call54 Tryz.func54 rfl mixed 6 [7, 8, 9] [] [] (by kernel_rfl) (Nat.le_of_ble_eq_true rfl) (by simp [settled_pvA]) (vc_soundN 1000 ?_)
  simp only [AS.start, pvA, pvC, ↓wPre, wA, ↓reduceIte, reduceIte, reduceCtorEq, Y1, Y2, Y3, Y4, Y5, Y6, Y7, Y8, Y9, YA, wE]
  refine run_loop (fun i : Nat => ⟨6, [7, 8, 9], [.any, .ref 0 0 0, .any, .osl 1 i 8 0 i, .any, .any], [(7, pts p.rim), (8, I p.rim.length), (9, I i)], [.row 0 25 (ofL (pvC p)), .row i (i * 8) (slFs vC 8 v0 (rimV (p.rim.take i)))]⟩) (fun i => i ≤ p.rim.length) (fun i => p.rim.length - i) 0 (by omega)
    ((sub_adopt 3 8 (slFs vC 8 v0 []) rfl).trans (sub_mk rfl (by simp [AS.put, subL]) (by simp [AS.put, subT, look, pts_def, I]) (by simp [AS.put, pvC, pts_def, bools_def, ints_def, I, rimV]))) ?_
  intro i hi next
  have w1 := wj i (by omega)
  by_cases hi2 : i < p.rim.length
  · have f1 : ((i : Int) < p.rim.length) = True := eq_true (by omega)
    have f2 : (i < p.rim.length) = True := eq_true hi2
    have f3 : (i * 2 + 2 ≤ p.rim.length * 2) = True := eq_true (by omega)
    have v1 := ptF p.rim i
    have hok := hr i hi2
    unfold ptOk wb at hok
    simp only [Bool.and_eq_true, decide_eq_true_eq] at hok
    have c1 := pof_fn (p.rim.getD i (0, 0)).1 (p.rim.getD i (0, 0)).2 ⟨by omega, by omega⟩ ⟨by omega, by omega⟩
    refine vc_soundN 1000 ?_
    simp only [pvC, w1, f1, f2, f3, v1, Int.toNat_natCast, ↓wPre, wA, ↓reduceIte, reduceIte, reduceCtorEq, Y1, Y2, Y3, Y4, Y5, Y6, Y7, Y8, Y9, YA, wE]
    refine call_fn c1 rfl ?_
    simp only [w1, ↓wPre, wA, ↓reduceIte, reduceIte, reduceCtorEq, Y1, Y2, Y3, Y4, Y5, Y6, Y7, Y8, Y9, YA, wE]
    have hap := appFs_one vC 8 v0 (rimV (p.rim.take i)) (ptV (p.rim.getD i (0, 0))) (by omega)
    have hlen : (rimV (p.rim.take i)).length = i := by simp [rimV]; omega
    have htk : rimV (p.rim.take i) ++ [ptV (p.rim.getD i (0, 0))] = rimV (p.rim.take (i + 1)) := by rw [take_succD _ (0, 0) hi2]; simp [rimV]
    rw [hlen, htk] at hap
    refine ⟨⟨fun j hj => ?_, by omega, by omega⟩, next (i + 1) _ (by omega) (by omega) (sub_cut (m := 2) (Nat.zero_le _) rfl (by simp [subL]) (by simp [subT, look, pts_def, I]) (by rw [← hap]; rfl) (by simp [wBel]) (by simp [wBel, bp]) (by simp [bo, br]))⟩
    match j, hj with
    | 0, _ => rfl
    | 1, _ => rfl
    | 2, _ => rfl
    | 3, _ => rfl
    | 4, _ => rfl
    | 5, _ => rfl
    | 6, _ => rfl
    | 7, _ => rfl
    | j + 8, h => omega
  obtain rfl : i = p.rim.length := by omega
  refine vc_soundN 1000 ?_
  simp only [pvC, Int.lt_irrefl, Nat.lt_irrefl, ↓wPre, wA, ↓reduceIte, reduceIte, reduceCtorEq, Y1, Y2, Y3, Y4, Y5, Y6, Y7, Y8, Y9, YA, wE]
  refine ret1 rfl ?_
  have hlen : (rimV p.rim).length = p.rim.length := by simp [rimV]
  rw [hR, vecs_def, hlen]
  refine sees_osl (n := p.rim.length) (.inl rfl) (by omega) (fun h => by rw [h]) fun j hj => ?_
  rw [List.take_length, Nat.zero_add]
  exact (settled_cells (hvc _) _).sees _
end
end Go.Ab.N
