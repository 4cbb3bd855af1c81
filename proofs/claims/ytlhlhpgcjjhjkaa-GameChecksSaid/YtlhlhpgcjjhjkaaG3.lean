/- Contracts of functions of this chapter, for every argument that fits, and what they need. -/
import Derived.Test.YtlhlhpgcjjhjkaaG2
set_option linter.unusedSimpArgs false
set_option linter.unusedVariables false
namespace Go.Ab.G
open Go Go.RowKit Go.Proofs
noncomputable section
set_option maxRecDepth 10000
set_option maxHeartbeats 2000000
set_option linter.unusedSimpArgs false
set_option linter.unusedVariables false
open Classical

/-! ### The first that a function finds -/
def idxF (p : Int → Bool) (s : List Int) : Int := if s.any p = true then (s.findIdx p : Nat) else -1
theorem idxF_hit {p : Int → Bool} {s : List Int} {j : Nat} (hj : j < s.length) (h : p (s.getD j 0) = true) (hno : ∀ i, i < j → p (s.getD i 0) = false) : idxF p s = j := by
  have at_ : ∀ i (hi : i < s.length), s.getD i 0 = s[i] := fun i hi => by rw [List.getD_eq_getElem?_getD, List.getElem?_eq_getElem hi]; rfl
  have e : s.findIdx p = j := by
    rw [List.findIdx_eq hj]
    exact ⟨by rw [← at_ j hj]; exact h, fun i hi => by rw [← at_ i (by omega)]; exact hno i hi⟩
  unfold idxF
  rw [if_pos (List.any_eq_true.2 ⟨_, getD_mem hj, h⟩), e]
theorem idxF_none {p : Int → Bool} {s : List Int} (hno : ∀ i, i < s.length → p (s.getD i 0) = false) : idxF p s = -1 := by
  unfold idxF
  rw [if_neg]
  intro h
  obtain ⟨x, hx, hp⟩ := List.any_eq_true.1 h
  obtain ⟨i, hi, rfl⟩ := List.getElem_of_mem hx
  have := hno i hi
  rw [List.getD_eq_getElem?_getD, List.getElem?_eq_getElem hi] at this
  simp only [Option.getD_some] at this
  rw [this] at hp; cases hp
theorem idxF_any (p : Int → Bool) (s : List Int) : decide (0 ≤ idxF p s) = s.any p := by
  unfold idxF
  cases h : s.any p
  · simp
  · rw [if_pos rfl]; exact decide_eq_true (by omega)

theorem indexf_fn (s : List Int) (f : FuncId) (caps : List AV) (p : Int → Bool) (hl : s.length < 1048576) (hc : ∀ a ∈ caps, Settled a) (hp : ∀ x ∈ s, Fn Try.prog f ([I x] ++ caps) (.bool (p x))) :
    Fn Try.prog 31 [ints s, .fn f caps] (I (idxF p s)) := by
  refine Fn.intro (fn := Try.f31) Try.call31 Try.func31 rfl mixed 6 [6, 7, 8] [] [] (by kernel_rfl) (Nat.le_of_ble_eq_true rfl) (by simpa [settled_ints] using settled_fn hc) (vc_soundN 1000 ?_)
  simp only [AS.start, ↓wPre, wPost, wFast, Nat.zero_add, Nat.add_zero, Nat.zero_lt_succ, Nat.min_self, Nat.zero_min, Nat.min_zero, Nat.sub_zero, Nat.zero_mul, Int.le_refl, Nat.le_refl, Nat.lt_irrefl, Nat.mul_one, Bool.false_eq_true, Bool.true_eq_false, decide_true, decide_false, decide_eq_true_eq, decide_eq_false_iff_not, Bool.not_true, Bool.not_false, Bool.not_eq_true', Bool.not_eq_false', Bool.and_true, Bool.true_and, Bool.false_and, beq_self_eq_true, ite_true, ite_false, true_and, and_true, false_and, and_false, not_true_eq_false, not_false_eq_true, false_implies, true_implies, implies_true, eq_self, ne_eq, or_true, true_or, or_false, false_or, Bool.or_false, Bool.or_true, Bool.false_or, Bool.true_or, Int.natCast_nonneg, Int.ofNat_lt, Int.ofNat_le, Int.ofNat_inj, Int.ofNat_zero, ↓reduceIte, reduceIte, Nat.reducePow, Nat.reduceLT, Nat.reduceLeDiff, Nat.reduceEqDiff, Nat.reduceAdd, Nat.reduceMul, Nat.reduceSub, Nat.reduceBEq, reduceCtorEq, sl1, wFacts, gmA]
  refine run_loop (fun j : Nat => ⟨6, [6, 7, 8], [ints s, .fn f caps, .any, .any, .any, .any], [(6, ints s), (7, I s.length), (8, I j)], []⟩) (fun j => j ≤ s.length ∧ ∀ i, i < j → p (s.getD i 0) = false) (fun j => s.length - j) 0 ⟨by omega, by omega⟩
    (sub_mk rfl (by simp [subL, ints, sl1, I]) (by simp [subT, look, ints, sl1, I]) rfl) ?_
  rintro j ⟨hj, hno⟩ next
  have w1 := wj j (by omega)
  refine vc_soundN 1000 ?_
  simp only [w1, ↓wPre, wPost, wFast, Nat.zero_add, Nat.add_zero, Nat.zero_lt_succ, Nat.min_self, Nat.zero_min, Nat.min_zero, Nat.sub_zero, Nat.zero_mul, Int.le_refl, Nat.le_refl, Nat.lt_irrefl, Nat.mul_one, Bool.false_eq_true, Bool.true_eq_false, decide_true, decide_false, decide_eq_true_eq, decide_eq_false_iff_not, Bool.not_true, Bool.not_false, Bool.not_eq_true', Bool.not_eq_false', Bool.and_true, Bool.true_and, Bool.false_and, beq_self_eq_true, ite_true, ite_false, true_and, and_true, false_and, and_false, not_true_eq_false, not_false_eq_true, false_implies, true_implies, implies_true, eq_self, ne_eq, or_true, true_or, or_false, false_or, Bool.or_false, Bool.or_true, Bool.false_or, Bool.true_or, Int.natCast_nonneg, Int.ofNat_lt, Int.ofNat_le, Int.ofNat_inj, Int.ofNat_zero, ↓reduceIte, reduceIte, Nat.reducePow, Nat.reduceLT, Nat.reduceLeDiff, Nat.reduceEqDiff, Nat.reduceAdd, Nat.reduceMul, Nat.reduceSub, Nat.reduceBEq, reduceCtorEq, sl1, wFacts, gmA]
  refine ⟨fun h => ⟨h, h, ?_⟩, fun h => ret1E (v := I (-1)) rfl rfl (settled_I _) ?_⟩
  · refine call_weak (hp _ (getD_mem h)) (weakL_rfl _) ?_
    simp only [w1, ↓wPre, wPost, wFast, Nat.zero_add, Nat.add_zero, Nat.zero_lt_succ, Nat.min_self, Nat.zero_min, Nat.min_zero, Nat.sub_zero, Nat.zero_mul, Int.le_refl, Nat.le_refl, Nat.lt_irrefl, Nat.mul_one, Bool.false_eq_true, Bool.true_eq_false, decide_true, decide_false, decide_eq_true_eq, decide_eq_false_iff_not, Bool.not_true, Bool.not_false, Bool.not_eq_true', Bool.not_eq_false', Bool.and_true, Bool.true_and, Bool.false_and, beq_self_eq_true, ite_true, ite_false, true_and, and_true, false_and, and_false, not_true_eq_false, not_false_eq_true, false_implies, true_implies, implies_true, eq_self, ne_eq, or_true, true_or, or_false, false_or, Bool.or_false, Bool.or_true, Bool.false_or, Bool.true_or, Int.natCast_nonneg, Int.ofNat_lt, Int.ofNat_le, Int.ofNat_inj, Int.ofNat_zero, ↓reduceIte, reduceIte, Nat.reducePow, Nat.reduceLT, Nat.reduceLeDiff, Nat.reduceEqDiff, Nat.reduceAdd, Nat.reduceMul, Nat.reduceSub, Nat.reduceBEq, reduceCtorEq, sl1, wFacts, gmA]
    refine guardP_intro (fun ht => ret1E (v := I j) rfl rfl (settled_I _) ?_) (fun hf => next (j + 1) _ ⟨by omega, fun i hi => ?_⟩ (by omega) (sub_mk rfl ?_ ?_ rfl))
    · rw [idxF_hit h ht hno]
    · by_cases e : i = j
      · rw [e]; exact hf
      · exact hno i (by omega)
    · simp [subL, ints, sl1, I]
    · simp [subT, look, ints, sl1, I]
  · rw [idxF_none fun i hi => hno i (by omega)]
theorem containsf_fn (s : List Int) (f : FuncId) (caps : List AV) (p : Int → Bool) (hl : s.length < 1048576) (hc : ∀ a ∈ caps, Settled a) (hp : ∀ x ∈ s, Fn Try.prog f ([I x] ++ caps) (.bool (p x))) :
    Fn Try.prog 35 [ints s, .fn f caps] (.bool (s.any p)) := by
  refine Fn.intro (fn := Try.f35) Try.call35 Try.func35 rfl mixed 5 [] [] [] (by kernel_rfl) (Nat.le_of_ble_eq_true rfl) (by simpa [settled_ints] using settled_fn hc) (vc_soundN 1000 ?_)
  simp only [AS.start, ↓wPre, wPost, wFast, Nat.zero_add, Nat.add_zero, Nat.zero_lt_succ, Nat.min_self, Nat.zero_min, Nat.min_zero, Nat.sub_zero, Nat.zero_mul, Int.le_refl, Nat.le_refl, Nat.lt_irrefl, Nat.mul_one, Bool.false_eq_true, Bool.true_eq_false, decide_true, decide_false, decide_eq_true_eq, decide_eq_false_iff_not, Bool.not_true, Bool.not_false, Bool.not_eq_true', Bool.not_eq_false', Bool.and_true, Bool.true_and, Bool.false_and, beq_self_eq_true, ite_true, ite_false, true_and, and_true, false_and, and_false, not_true_eq_false, not_false_eq_true, false_implies, true_implies, implies_true, eq_self, ne_eq, or_true, true_or, or_false, false_or, Bool.or_false, Bool.or_true, Bool.false_or, Bool.true_or, Int.natCast_nonneg, Int.ofNat_lt, Int.ofNat_le, Int.ofNat_inj, Int.ofNat_zero, ↓reduceIte, reduceIte, Nat.reducePow, Nat.reduceLT, Nat.reduceLeDiff, Nat.reduceEqDiff, Nat.reduceAdd, Nat.reduceMul, Nat.reduceSub, Nat.reduceBEq, reduceCtorEq, sl1, wFacts, gmA]
  have hi := idxF_any p s
  refine call_fn (indexf_fn s f caps p hl hc hp) rfl ?_
  simp only [↓wPre, wPost, wFast, Nat.zero_add, Nat.add_zero, Nat.zero_lt_succ, Nat.min_self, Nat.zero_min, Nat.min_zero, Nat.sub_zero, Nat.zero_mul, Int.le_refl, Nat.le_refl, Nat.lt_irrefl, Nat.mul_one, Bool.false_eq_true, Bool.true_eq_false, decide_true, decide_false, decide_eq_true_eq, decide_eq_false_iff_not, Bool.not_true, Bool.not_false, Bool.not_eq_true', Bool.not_eq_false', Bool.and_true, Bool.true_and, Bool.false_and, beq_self_eq_true, ite_true, ite_false, true_and, and_true, false_and, and_false, not_true_eq_false, not_false_eq_true, false_implies, true_implies, implies_true, eq_self, ne_eq, or_true, true_or, or_false, false_or, Bool.or_false, Bool.or_true, Bool.false_or, Bool.true_or, Int.natCast_nonneg, Int.ofNat_lt, Int.ofNat_le, Int.ofNat_inj, Int.ofNat_zero, ↓reduceIte, reduceIte, Nat.reducePow, Nat.reduceLT, Nat.reduceLeDiff, Nat.reduceEqDiff, Nat.reduceAdd, Nat.reduceMul, Nat.reduceSub, Nat.reduceBEq, reduceCtorEq, sl1, wFacts, gmA]
  exact ret1E (v := .bool (decide (0 ≤ idxF p s))) rfl rfl (settled_bool _) (by rw [idxF_any])

/-! ### Valid -/
def gp (g : Gm) : AV := .ptr 4 (ofL (gmL g)) 0
theorem settled_gp (g : Gm) : Settled (gp g) := settled_ptr fun j _ => by
  unfold gmL ofL
  match j with
  | 0 => exact settled_ints _
  | 1 => exact settled_intss _
  | 2 => exact settled_ints _
  | 3 => exact settled_ints _
  | j + 4 => exact settled_any
theorem valid1_fn (g : Gm) (k : Int) (hb : g.bad.length < 1048576) : Fn Try.prog 36 [I k, gp g] (.bool (decide (k ∈ g.bad))) := by
  refine Fn.intro (fn := Try.f36) Try.call36 Try.func36 rfl mixed 4 [] [] [] (by kernel_rfl) (Nat.le_of_ble_eq_true rfl) (by simp [settled_I, settled_gp]) (vc_soundN 1000 ?_)
  simp only [AS.start, gp, gmL, ↓wPre, wPost, wFast, Nat.zero_add, Nat.add_zero, Nat.zero_lt_succ, Nat.min_self, Nat.zero_min, Nat.min_zero, Nat.sub_zero, Nat.zero_mul, Int.le_refl, Nat.le_refl, Nat.lt_irrefl, Nat.mul_one, Bool.false_eq_true, Bool.true_eq_false, decide_true, decide_false, decide_eq_true_eq, decide_eq_false_iff_not, Bool.not_true, Bool.not_false, Bool.not_eq_true', Bool.not_eq_false', Bool.and_true, Bool.true_and, Bool.false_and, beq_self_eq_true, ite_true, ite_false, true_and, and_true, false_and, and_false, not_true_eq_false, not_false_eq_true, false_implies, true_implies, implies_true, eq_self, ne_eq, or_true, true_or, or_false, false_or, Bool.or_false, Bool.or_true, Bool.false_or, Bool.true_or, Int.natCast_nonneg, Int.ofNat_lt, Int.ofNat_le, Int.ofNat_inj, Int.ofNat_zero, ↓reduceIte, reduceIte, Nat.reducePow, Nat.reduceLT, Nat.reduceLeDiff, Nat.reduceEqDiff, Nat.reduceAdd, Nat.reduceMul, Nat.reduceSub, Nat.reduceBEq, reduceCtorEq, sl1, wFacts, gmA]
  refine call_fn (contains_fn g.bad k hb) rfl ?_
  simp only [↓wPre, wPost, wFast, Nat.zero_add, Nat.add_zero, Nat.zero_lt_succ, Nat.min_self, Nat.zero_min, Nat.min_zero, Nat.sub_zero, Nat.zero_mul, Int.le_refl, Nat.le_refl, Nat.lt_irrefl, Nat.mul_one, Bool.false_eq_true, Bool.true_eq_false, decide_true, decide_false, decide_eq_true_eq, decide_eq_false_iff_not, Bool.not_true, Bool.not_false, Bool.not_eq_true', Bool.not_eq_false', Bool.and_true, Bool.true_and, Bool.false_and, beq_self_eq_true, ite_true, ite_false, true_and, and_true, false_and, and_false, not_true_eq_false, not_false_eq_true, false_implies, true_implies, implies_true, eq_self, ne_eq, or_true, true_or, or_false, false_or, Bool.or_false, Bool.or_true, Bool.false_or, Bool.true_or, Int.natCast_nonneg, Int.ofNat_lt, Int.ofNat_le, Int.ofNat_inj, Int.ofNat_zero, ↓reduceIte, reduceIte, Nat.reducePow, Nat.reduceLT, Nat.reduceLeDiff, Nat.reduceEqDiff, Nat.reduceAdd, Nat.reduceMul, Nat.reduceSub, Nat.reduceBEq, reduceCtorEq, sl1, wFacts, gmA]
  exact ret1E rfl rfl (settled_bool _) rfl
theorem sees_gp {H : List AO} {id ver : Nat} {g : Gm} (ho : H[id]? = some (.row ver 4 (ofL (gmL g)))) : Sees H (.ref id ver 0) (gp g) :=
  sees_ref (.inl ho) (by omega) fun j hj => by
    unfold gmL ofL
    match j, hj with
    | 0, _ => exact (settled_ints _).sees _
    | 1, _ => exact (settled_intss _).sees _
    | 2, _ => exact (settled_ints _).sees _
    | 3, _ => exact (settled_ints _).sees _

/-- Sizes that a slice can have. -/
def smallG (g : Gm) : Prop := g.own.length < 1048576 ∧ g.nxt.length < 1048576 ∧ g.goal.length < 1048576 ∧ g.bad.length < 1048576 ∧ ∀ l ∈ g.nxt, l.length < 1048576
def validV (g : Gm) (st : Nat) : Prop := ∀ k, k < st → (ow g k = 0 ∨ ow g k = 1) ∧ rising (nx g k) g.n
theorem valid_fn (g : Gm) (hs : smallG g) : Fn Try.prog 14 [gmA g] (I (validF g)) := by
  obtain ⟨s1, s2, s3, s4, s5⟩ := hs
  refine Fn.intro (fn := Try.f14) Try.call14 Try.func14 rfl mixed 7 [36, 37, 38] [] [] (by kernel_rfl) (Nat.le_of_ble_eq_true rfl) (by simp [settled_ints, settled_I, settled_fn0, settled_intss, settled_bool, settled_nil, settled_gmA]) (vc_soundN 1000 ?_); simp (config := { maxSteps := 2000000 }) only [AS.start, ↓wPre, wPost, wFast, Nat.zero_add, Nat.add_zero, Nat.zero_lt_succ, Nat.min_self, Nat.zero_min, Nat.min_zero, Nat.sub_zero, Nat.zero_mul, Int.le_refl, Nat.le_refl, Nat.lt_irrefl, Nat.mul_one, Bool.false_eq_true, Bool.true_eq_false, decide_true, decide_false, decide_eq_true_eq, decide_eq_false_iff_not, Bool.not_true, Bool.not_false, Bool.not_eq_true', Bool.not_eq_false', Bool.and_true, Bool.true_and, Bool.false_and, beq_self_eq_true, ite_true, ite_false, true_and, and_true, false_and, and_false, not_true_eq_false, not_false_eq_true, false_implies, true_implies, implies_true, eq_self, ne_eq, or_true, true_or, or_false, false_or, Bool.or_false, Bool.or_true, Bool.false_or, Bool.true_or, Int.natCast_nonneg, Int.ofNat_lt, Int.ofNat_le, Int.ofNat_inj, Int.ofNat_zero, ↓reduceIte, reduceIte, Nat.reducePow, Nat.reduceLT, Nat.reduceLeDiff, Nat.reduceEqDiff, Nat.reduceAdd, Nat.reduceMul, Nat.reduceSub, Nat.reduceBEq, reduceCtorEq, sl1, wFacts, gmA]
  have v4 : ¬ sizeG g → (I 4) = I (validF g) := fun h => by unfold validF; rw [if_neg h]
  have v1 : sizeG g → ¬ restG g → (I 1) = I (validF g) := fun h h' => by unfold validF; rw [if_pos h, if_neg h']
  have v0 : sizeG g → restG g → (I 0) = I (validF g) := fun h h' => by unfold validF; rw [if_pos h, if_pos h']
  have hn : g.n = g.own.length := rfl
  refine ⟨fun h => ret1E rfl rfl (settled_I _) (v4 ?_), fun h1 => ⟨fun h => ret1E rfl rfl (settled_I _) (v4 ?_), fun h2 => ?_⟩⟩
  · unfold sizeG; omega
  · unfold sizeG; omega
  have hsz : sizeG g := by unfold sizeG; omega
  refine ⟨fun h => ret1E rfl rfl (settled_I _) (v1 hsz fun hr => h hr.1), fun h3 => call_fn (rising_fn g.goal g.own.length s3) rfl ?_⟩
  simp only [↓wPre, wPost, wFast, Nat.zero_add, Nat.add_zero, Nat.zero_lt_succ, Nat.min_self, Nat.zero_min, Nat.min_zero, Nat.sub_zero, Nat.zero_mul, Int.le_refl, Nat.le_refl, Nat.lt_irrefl, Nat.mul_one, Bool.false_eq_true, Bool.true_eq_false, decide_true, decide_false, decide_eq_true_eq, decide_eq_false_iff_not, Bool.not_true, Bool.not_false, Bool.not_eq_true', Bool.not_eq_false', Bool.and_true, Bool.true_and, Bool.false_and, beq_self_eq_true, ite_true, ite_false, true_and, and_true, false_and, and_false, not_true_eq_false, not_false_eq_true, false_implies, true_implies, implies_true, eq_self, ne_eq, or_true, true_or, or_false, false_or, Bool.or_false, Bool.or_true, Bool.false_or, Bool.true_or, Int.natCast_nonneg, Int.ofNat_lt, Int.ofNat_le, Int.ofNat_inj, Int.ofNat_zero, ↓reduceIte, reduceIte, Nat.reducePow, Nat.reduceLT, Nat.reduceLeDiff, Nat.reduceEqDiff, Nat.reduceAdd, Nat.reduceMul, Nat.reduceSub, Nat.reduceBEq, reduceCtorEq, sl1, wFacts, gmA]
  refine ⟨fun h => ret1E rfl rfl (settled_I _) (v1 hsz fun hr => h hr.2.1), fun h4 => call_fn (rising_fn g.bad g.own.length s4) rfl ?_⟩
  simp only [↓wPre, wPost, wFast, Nat.zero_add, Nat.add_zero, Nat.zero_lt_succ, Nat.min_self, Nat.zero_min, Nat.min_zero, Nat.sub_zero, Nat.zero_mul, Int.le_refl, Nat.le_refl, Nat.lt_irrefl, Nat.mul_one, Bool.false_eq_true, Bool.true_eq_false, decide_true, decide_false, decide_eq_true_eq, decide_eq_false_iff_not, Bool.not_true, Bool.not_false, Bool.not_eq_true', Bool.not_eq_false', Bool.and_true, Bool.true_and, Bool.false_and, beq_self_eq_true, ite_true, ite_false, true_and, and_true, false_and, and_false, not_true_eq_false, not_false_eq_true, false_implies, true_implies, implies_true, eq_self, ne_eq, or_true, true_or, or_false, false_or, Bool.or_false, Bool.or_true, Bool.false_or, Bool.true_or, Int.natCast_nonneg, Int.ofNat_lt, Int.ofNat_le, Int.ofNat_inj, Int.ofNat_zero, ↓reduceIte, reduceIte, Nat.reducePow, Nat.reduceLT, Nat.reduceLeDiff, Nat.reduceEqDiff, Nat.reduceAdd, Nat.reduceMul, Nat.reduceSub, Nat.reduceBEq, reduceCtorEq, sl1, wFacts, gmA]
  refine ⟨fun h => ret1E rfl rfl (settled_I _) (v1 hsz fun hr => h hr.2.2.1), fun h5 => ?_⟩
  refine run_loop (fun j : Nat => ⟨7, [36, 37, 38], [gmA g, .ref 0 0 0, .any, I g.own.length, .any, .any, .any], [(36, intss g.nxt), (37, I g.nxt.length), (38, I j)], [.row 0 4 (ofL (gmL g))]⟩) (fun j => j ≤ g.own.length ∧ validV g j) (fun j => g.own.length - j) 0 ⟨by omega, fun k hk => by omega⟩
    (sub_mk rfl (by simp [subL, gmA, ints, intss, sl1, I]) (by simp [subT, look, ints, intss, sl1, I]) (by simp [gmL, ints, intss, sl1])) ?_
  rintro j ⟨hj, hinv⟩ next
  have w1 := wj j (by omega)
  have hown : ow g j = g.own.getD j 0 := rfl
  have hnx : nx g j = g.nxt.getD j [] := rfl
  have bad : j < g.own.length → ¬ ((ow g j = 0 ∨ ow g j = 1) ∧ rising (nx g j) g.n) → (I 1) = I (validF g) := fun h h' => v1 hsz fun hr => h' ⟨(hr.2.2.2 j h).1, (hr.2.2.2 j h).2.1⟩
  refine vc_soundN 1000 ?_
  simp only [w1, gmL, ↓wPre, wPost, wFast, Nat.zero_add, Nat.add_zero, Nat.zero_lt_succ, Nat.min_self, Nat.zero_min, Nat.min_zero, Nat.sub_zero, Nat.zero_mul, Int.le_refl, Nat.le_refl, Nat.lt_irrefl, Nat.mul_one, Bool.false_eq_true, Bool.true_eq_false, decide_true, decide_false, decide_eq_true_eq, decide_eq_false_iff_not, Bool.not_true, Bool.not_false, Bool.not_eq_true', Bool.not_eq_false', Bool.and_true, Bool.true_and, Bool.false_and, beq_self_eq_true, ite_true, ite_false, true_and, and_true, false_and, and_false, not_true_eq_false, not_false_eq_true, false_implies, true_implies, implies_true, eq_self, ne_eq, or_true, true_or, or_false, false_or, Bool.or_false, Bool.or_true, Bool.false_or, Bool.true_or, Int.natCast_nonneg, Int.ofNat_lt, Int.ofNat_le, Int.ofNat_inj, Int.ofNat_zero, ↓reduceIte, reduceIte, Nat.reducePow, Nat.reduceLT, Nat.reduceLeDiff, Nat.reduceEqDiff, Nat.reduceAdd, Nat.reduceMul, Nat.reduceSub, Nat.reduceBEq, reduceCtorEq, sl1, wFacts, gmA]
  have call : j < g.own.length → Fn Try.prog 34 [ints (g.nxt.getD j []), I g.own.length] (.bool (decide (rising (g.nxt.getD j []) g.own.length))) := fun h => rising_fn _ _ (s5 _ (getD_mem (by omega)))
  have go : (ow g j = 0 ∨ ow g j = 1) → rising (nx g j) g.n → validV g (j + 1) := fun h h' k hk => by
    by_cases e : k = j
    · rw [e]; exact ⟨h, h'⟩
    · exact hinv k (by omega)
  refine ⟨fun h => ⟨h, h, by omega, by omega, fun n0 => ⟨fun n1 => ret1E rfl rfl (settled_I _) (bad (by omega) (by omega)), fun n1 => call_fn (call (by omega)) rfl ?_⟩, fun n0 => call_fn (call (by omega)) rfl ?_⟩, fun h => ?_⟩
  · simp only [w1, gmL, ↓wPre, wPost, wFast, Nat.zero_add, Nat.add_zero, Nat.zero_lt_succ, Nat.min_self, Nat.zero_min, Nat.min_zero, Nat.sub_zero, Nat.zero_mul, Int.le_refl, Nat.le_refl, Nat.lt_irrefl, Nat.mul_one, Bool.false_eq_true, Bool.true_eq_false, decide_true, decide_false, decide_eq_true_eq, decide_eq_false_iff_not, Bool.not_true, Bool.not_false, Bool.not_eq_true', Bool.not_eq_false', Bool.and_true, Bool.true_and, Bool.false_and, beq_self_eq_true, ite_true, ite_false, true_and, and_true, false_and, and_false, not_true_eq_false, not_false_eq_true, false_implies, true_implies, implies_true, eq_self, ne_eq, or_true, true_or, or_false, false_or, Bool.or_false, Bool.or_true, Bool.false_or, Bool.true_or, Int.natCast_nonneg, Int.ofNat_lt, Int.ofNat_le, Int.ofNat_inj, Int.ofNat_zero, ↓reduceIte, reduceIte, Nat.reducePow, Nat.reduceLT, Nat.reduceLeDiff, Nat.reduceEqDiff, Nat.reduceAdd, Nat.reduceMul, Nat.reduceSub, Nat.reduceBEq, reduceCtorEq, sl1, wFacts, gmA]
    refine ⟨fun hr => ret1E rfl rfl (settled_I _) (bad (by omega) fun hh => hr hh.2), fun hr => next (j + 1) _ ⟨by omega, go (.inr n1) hr⟩ (by omega) (sub_mk rfl ?_ ?_ ?_)⟩
    · simp [subL, gmA, ints, intss, sl1, I]
    · simp [subT, look, ints, intss, sl1, I]
    · simp [gmL, ints, intss, sl1]
  · simp only [w1, gmL, ↓wPre, wPost, wFast, Nat.zero_add, Nat.add_zero, Nat.zero_lt_succ, Nat.min_self, Nat.zero_min, Nat.min_zero, Nat.sub_zero, Nat.zero_mul, Int.le_refl, Nat.le_refl, Nat.lt_irrefl, Nat.mul_one, Bool.false_eq_true, Bool.true_eq_false, decide_true, decide_false, decide_eq_true_eq, decide_eq_false_iff_not, Bool.not_true, Bool.not_false, Bool.not_eq_true', Bool.not_eq_false', Bool.and_true, Bool.true_and, Bool.false_and, beq_self_eq_true, ite_true, ite_false, true_and, and_true, false_and, and_false, not_true_eq_false, not_false_eq_true, false_implies, true_implies, implies_true, eq_self, ne_eq, or_true, true_or, or_false, false_or, Bool.or_false, Bool.or_true, Bool.false_or, Bool.true_or, Int.natCast_nonneg, Int.ofNat_lt, Int.ofNat_le, Int.ofNat_inj, Int.ofNat_zero, ↓reduceIte, reduceIte, Nat.reducePow, Nat.reduceLT, Nat.reduceLeDiff, Nat.reduceEqDiff, Nat.reduceAdd, Nat.reduceMul, Nat.reduceSub, Nat.reduceBEq, reduceCtorEq, sl1, wFacts, gmA]
    refine ⟨fun hr => ret1E rfl rfl (settled_I _) (bad (by omega) fun hh => hr hh.2), fun hr => next (j + 1) _ ⟨by omega, go (.inl n0) hr⟩ (by omega) (sub_mk rfl ?_ ?_ ?_)⟩
    · simp [subL, gmA, ints, intss, sl1, I]
    · simp [subT, look, ints, intss, sl1, I]
    · simp [gmL, ints, intss, sl1]
  have hj' : j = g.own.length := by omega
  subst hj'
  refine call_lent (containsf_fn g.goal 36 [gp g] (fun k => decide (k ∈ g.bad)) s3 (by simp [settled_gp]) (fun x _ => valid1_fn g x s4)) rfl ⟨(settled_ints _).sees _, sees_fn ⟨sees_gp rfl, trivial⟩, trivial⟩ (flat_bool _) ?_
  simp only [gmL, ↓wPre, wPost, wFast, Nat.zero_add, Nat.add_zero, Nat.zero_lt_succ, Nat.min_self, Nat.zero_min, Nat.min_zero, Nat.sub_zero, Nat.zero_mul, Int.le_refl, Nat.le_refl, Nat.lt_irrefl, Nat.mul_one, Bool.false_eq_true, Bool.true_eq_false, decide_true, decide_false, decide_eq_true_eq, decide_eq_false_iff_not, Bool.not_true, Bool.not_false, Bool.not_eq_true', Bool.not_eq_false', Bool.and_true, Bool.true_and, Bool.false_and, beq_self_eq_true, ite_true, ite_false, true_and, and_true, false_and, and_false, not_true_eq_false, not_false_eq_true, false_implies, true_implies, implies_true, eq_self, ne_eq, or_true, true_or, or_false, false_or, Bool.or_false, Bool.or_true, Bool.false_or, Bool.true_or, Int.natCast_nonneg, Int.ofNat_lt, Int.ofNat_le, Int.ofNat_inj, Int.ofNat_zero, ↓reduceIte, reduceIte, Nat.reducePow, Nat.reduceLT, Nat.reduceLeDiff, Nat.reduceEqDiff, Nat.reduceAdd, Nat.reduceMul, Nat.reduceSub, Nat.reduceBEq, reduceCtorEq, sl1, wFacts, gmA]
  refine guardP_intro (fun ht => ret1E rfl rfl (settled_I _) (v1 hsz fun hr => ?_)) (fun hf => ret1E rfl rfl (settled_I _) (v0 hsz ⟨by omega, h4, h5, fun k hk => ⟨(hinv k hk).1, (hinv k hk).2, fun hb => ?_⟩⟩))
  · obtain ⟨x, hx, hb⟩ := List.any_eq_true.1 ht
    have hm := rising_mem hr.2.1 hx
    refine (hr.2.2.2 x.toNat (by omega)).2.2 ?_
    rw [show ((x.toNat : Nat) : Int) = x by omega]
    exact ⟨hx, by simpa using hb⟩
  · have : g.goal.any (fun k => decide (k ∈ g.bad)) = true := List.any_eq_true.2 ⟨_, hb.1, by simpa using hb.2⟩
    rw [this] at hf; cases hf
end
end Go.Ab.G
