/- Contracts of functions of this chapter, for every argument that fits, and what they need. -/
import Derived.Test.YtlhlhpgcjjhjkaaGB
import Derived.Test.YtlhlhpgcjjhjkaaFacts
set_option linter.unusedSimpArgs false
set_option linter.unusedVariables false
namespace Go.Ab.G
open Go Go.RowKit Go.Proofs
noncomputable section
set_option maxRecDepth 10000
set_option maxHeartbeats 2000000
set_option linter.unusedSimpArgs false
set_option linter.unusedVariables false
open Classical

/-! ### Games as values -/
def gmL (g : Gm) : List AV := [ints g.own, intss g.nxt, ints g.goal, ints g.bad]
def gmA (g : Gm) : AV := .agg [ints g.own, intss g.nxt, ints g.goal, ints g.bad]
theorem settled_gmA (g : Gm) : Settled (gmA g) := settled_agg (by simp [settled_ints, settled_intss])

theorem same_fn (a b : List Int) (ha : a.length < 4611686018427387904) : Fn Try.prog 13 [ints a, ints b] (.bool (decide (a = b))) := by
  refine Fn.intro (fn := Try.f13) Try.call13 Try.func13 rfl mixed 6 [] [] [] (by kernel_rfl) (Nat.le_of_ble_eq_true rfl) (by simp [settled_ints]) (vc_soundN 1000 ?_)
  simp only [AS.start, ↓wPre, wPost, wFast, Nat.zero_add, Nat.add_zero, Nat.zero_lt_succ, Nat.min_self, Nat.zero_min, Nat.min_zero, Nat.sub_zero, Nat.zero_mul, Int.le_refl, Nat.le_refl, Nat.lt_irrefl, Nat.mul_one, Bool.false_eq_true, Bool.true_eq_false, decide_true, decide_false, decide_eq_true_eq, decide_eq_false_iff_not, Bool.not_true, Bool.not_false, Bool.not_eq_true', Bool.not_eq_false', Bool.and_true, Bool.true_and, Bool.false_and, beq_self_eq_true, ite_true, ite_false, true_and, and_true, false_and, and_false, not_true_eq_false, not_false_eq_true, false_implies, true_implies, implies_true, eq_self, ne_eq, or_true, true_or, or_false, false_or, Bool.or_false, Bool.or_true, Bool.false_or, Bool.true_or, Int.natCast_nonneg, Int.ofNat_lt, Int.ofNat_le, Int.ofNat_inj, Int.ofNat_zero, ↓reduceIte, reduceIte, Nat.reducePow, Nat.reduceLT, Nat.reduceLeDiff, Nat.reduceEqDiff, Nat.reduceAdd, Nat.reduceMul, Nat.reduceSub, Nat.reduceBEq, reduceCtorEq, sl1, wFacts, gmA]
  refine ⟨fun hne => ret1 (t := 4) rfl (sees_of (settled_bool _) ?_), fun hl => ?_⟩
  · have : a ≠ b := fun e => hne (by rw [e])
    simp [AS.get, this]
  refine run_loop (fun j : Nat => ⟨6, [], [ints a, ints b, .any, .any, .any, I j], [], []⟩) (fun j => j ≤ a.length ∧ ∀ i : Nat, i < j → a.getD i 0 = b.getD i 0) (fun j => a.length - j) 0 ⟨by omega, by omega⟩
    (sub_mk rfl (by simp [subL, ints, intss, bools, sl1, I]) (by simp [subT]) rfl) ?_
  rintro j ⟨hj, hinv⟩ next
  have w1 : IntKind.i64.wrap ((j:Int) + 1) = ((j + 1 : Nat) : Int) := by rw [IntKind.wrap_i64]; omega
  refine vc_soundN 1000 ?_
  simp only [w1, ↓wPre, wPost, wFast, Nat.zero_add, Nat.add_zero, Nat.zero_lt_succ, Nat.min_self, Nat.zero_min, Nat.min_zero, Nat.sub_zero, Nat.zero_mul, Int.le_refl, Nat.le_refl, Nat.lt_irrefl, Nat.mul_one, Bool.false_eq_true, Bool.true_eq_false, decide_true, decide_false, decide_eq_true_eq, decide_eq_false_iff_not, Bool.not_true, Bool.not_false, Bool.not_eq_true', Bool.not_eq_false', Bool.and_true, Bool.true_and, Bool.false_and, beq_self_eq_true, ite_true, ite_false, true_and, and_true, false_and, and_false, not_true_eq_false, not_false_eq_true, false_implies, true_implies, implies_true, eq_self, ne_eq, or_true, true_or, or_false, false_or, Bool.or_false, Bool.or_true, Bool.false_or, Bool.true_or, Int.natCast_nonneg, Int.ofNat_lt, Int.ofNat_le, Int.ofNat_inj, Int.ofNat_zero, ↓reduceIte, reduceIte, Nat.reducePow, Nat.reduceLT, Nat.reduceLeDiff, Nat.reduceEqDiff, Nat.reduceAdd, Nat.reduceMul, Nat.reduceSub, Nat.reduceBEq, reduceCtorEq, sl1, wFacts, gmA]
  refine ⟨fun h => ⟨h, h, by omega, by omega, fun hne => ret1 (t := 4) rfl (sees_of (settled_bool _) ?_), fun he => next (j + 1) _ ⟨by omega, fun i hi => ?_⟩ (by omega) (sub_mk rfl (by simp [subL, ints, intss, bools, sl1, I]) (by simp [subT]) rfl)⟩, fun h => ret1 (t := 4) rfl (sees_of (settled_bool _) ?_)⟩
  · have : a ≠ b := fun e => hne (by rw [e])
    simp [AS.get, this]
  · by_cases e : i = j
    · rw [e]; exact he
    · exact hinv i (by omega)
  · have : a = b := by
      apply List.ext_getElem hl
      intro i h1 h2
      have := hinv i (by omega)
      simpa [List.getD_eq_getElem?_getD, h1, h2] using this
    simp [AS.get, this]
theorem index_fn (s : List Int) (v : Int) (hl : s.length < 1048576) : ∃ r : Int, Fn Try.prog 44 [ints s, I v] (I r) ∧ (0 ≤ r ↔ v ∈ s) := by
  have key : ∀ r : Int, ((∃ j : Nat, (j < s.length ∧ s.getD j 0 = v ∧ ∀ i, i < j → s.getD i 0 ≠ v) ∧ r = j) ∨ (v ∉ s ∧ r = -1)) → Fn Try.prog 44 [ints s, I v] (I r) := by
    intro r hr
    refine Fn.intro (fn := Try.f44) Try.call44 Try.func44 rfl mixed 6 [6, 7, 8] [] [] (by kernel_rfl) (Nat.le_of_ble_eq_true rfl) (by simp [settled_ints, settled_I]) (vc_soundN 1000 ?_)
    simp only [AS.start, ↓wPre, wPost, wFast, Nat.zero_add, Nat.add_zero, Nat.zero_lt_succ, Nat.min_self, Nat.zero_min, Nat.min_zero, Nat.sub_zero, Nat.zero_mul, Int.le_refl, Nat.le_refl, Nat.lt_irrefl, Nat.mul_one, Bool.false_eq_true, Bool.true_eq_false, decide_true, decide_false, decide_eq_true_eq, decide_eq_false_iff_not, Bool.not_true, Bool.not_false, Bool.not_eq_true', Bool.not_eq_false', Bool.and_true, Bool.true_and, Bool.false_and, beq_self_eq_true, ite_true, ite_false, true_and, and_true, false_and, and_false, not_true_eq_false, not_false_eq_true, false_implies, true_implies, implies_true, eq_self, ne_eq, or_true, true_or, or_false, false_or, Bool.or_false, Bool.or_true, Bool.false_or, Bool.true_or, Int.natCast_nonneg, Int.ofNat_lt, Int.ofNat_le, Int.ofNat_inj, Int.ofNat_zero, ↓reduceIte, reduceIte, Nat.reducePow, Nat.reduceLT, Nat.reduceLeDiff, Nat.reduceEqDiff, Nat.reduceAdd, Nat.reduceMul, Nat.reduceSub, Nat.reduceBEq, reduceCtorEq, sl1, wFacts, gmA]
    refine run_loop (fun j : Nat => ⟨6, [6, 7, 8], [ints s, I v, .any, .any, .any, .any], [(6, ints s), (7, I s.length), (8, I j)], []⟩) (fun j => j ≤ s.length ∧ ∀ i, i < j → s.getD i 0 ≠ v) (fun j => s.length - j) 0 ⟨by omega, by omega⟩
      (sub_mk rfl (by simp [subL, ints, sl1, I]) (by simp [subT, look, ints, sl1, I]) rfl) ?_
    rintro j ⟨hj, hno⟩ next
    have w1 := wj j (by omega)
    refine vc_soundN 1000 ?_
    simp only [w1, ↓wPre, wPost, wFast, Nat.zero_add, Nat.add_zero, Nat.zero_lt_succ, Nat.min_self, Nat.zero_min, Nat.min_zero, Nat.sub_zero, Nat.zero_mul, Int.le_refl, Nat.le_refl, Nat.lt_irrefl, Nat.mul_one, Bool.false_eq_true, Bool.true_eq_false, decide_true, decide_false, decide_eq_true_eq, decide_eq_false_iff_not, Bool.not_true, Bool.not_false, Bool.not_eq_true', Bool.not_eq_false', Bool.and_true, Bool.true_and, Bool.false_and, beq_self_eq_true, ite_true, ite_false, true_and, and_true, false_and, and_false, not_true_eq_false, not_false_eq_true, false_implies, true_implies, implies_true, eq_self, ne_eq, or_true, true_or, or_false, false_or, Bool.or_false, Bool.or_true, Bool.false_or, Bool.true_or, Int.natCast_nonneg, Int.ofNat_lt, Int.ofNat_le, Int.ofNat_inj, Int.ofNat_zero, ↓reduceIte, reduceIte, Nat.reducePow, Nat.reduceLT, Nat.reduceLeDiff, Nat.reduceEqDiff, Nat.reduceAdd, Nat.reduceMul, Nat.reduceSub, Nat.reduceBEq, reduceCtorEq, sl1, wFacts, gmA]
    refine ⟨fun h => ⟨h, h, fun he => ?_, fun he => next (j + 1) _ ⟨by omega, fun i hi => ?_⟩ (by omega) (sub_mk rfl (by simp [subL, ints, sl1, I]) (by simp [subT, look, ints, sl1, I]) rfl)⟩, fun h => ?_⟩
    · refine ret1 rfl (sees_of (settled_I _) ?_)
      rcases hr with ⟨j', ⟨h1, h2, h3⟩, rfl⟩ | ⟨h1, rfl⟩
      · have : j = j' := by
          rcases Nat.lt_trichotomy j j' with h | h | h
          · exact absurd he.symm (h3 j h)
          · exact h
          · exact absurd h2 (hno j' h)
        subst this; rfl
      · exact absurd (he ▸ getD_mem h) h1
    · by_cases e : i = j
      · subst e; exact fun h => he h.symm
      · exact hno i (by omega)
    · obtain rfl : j = s.length := by omega
      refine ret1 rfl (sees_of (settled_I _) ?_)
      rcases hr with ⟨j', ⟨h1, h2, h3⟩, rfl⟩ | ⟨h1, rfl⟩
      · exact absurd h2 (hno j' h1)
      · rfl
  by_cases hv : v ∈ s
  · obtain ⟨j0, h0, h1⟩ := List.getElem_of_mem hv
    have hex : ∃ j, j < s.length ∧ s.getD j 0 = v := ⟨j0, h0, by rw [List.getD_eq_getElem?_getD, List.getElem?_eq_getElem h0]; exact h1⟩
    have least : ∀ n, (∃ j, j ≤ n ∧ j < s.length ∧ s.getD j 0 = v) → ∃ j, j < s.length ∧ s.getD j 0 = v ∧ ∀ i, i < j → s.getD i 0 ≠ v := by
      intro n
      induction n with
      | zero => rintro ⟨j, h1, h2, h3⟩; exact ⟨j, h2, h3, fun i hi => by omega⟩
      | succ n ih =>
        rintro ⟨j, h1, h2, h3⟩
        by_cases hq : ∃ j, j ≤ n ∧ j < s.length ∧ s.getD j 0 = v
        · exact ih hq
        · exact ⟨j, h2, h3, fun i hi he => hq ⟨i, by omega, by omega, he⟩⟩
    obtain ⟨j, h1, h2, h3⟩ := least s.length (by obtain ⟨j, a, b⟩ := hex; exact ⟨j, by omega, a, b⟩)
    exact ⟨j, key _ (.inl ⟨j, ⟨h1, h2, h3⟩, rfl⟩), by simp [hv]⟩
  · exact ⟨-1, key _ (.inr ⟨hv, rfl⟩), by simp [hv]⟩

theorem contains_fn (s : List Int) (v : Int) (hl : s.length < 1048576) : Fn Try.prog 37 [ints s, I v] (.bool (decide (v ∈ s))) := by
  obtain ⟨r, h1, h2⟩ := index_fn s v hl
  refine Fn.intro (fn := Try.f37) Try.call37 Try.func37 rfl mixed 5 [] [] [] (by kernel_rfl) (Nat.le_of_ble_eq_true rfl) (by simp [settled_ints, settled_I]) (vc_soundN 1000 ?_)
  simp only [AS.start, ↓wPre, wPost, wFast, Nat.zero_add, Nat.add_zero, Nat.zero_lt_succ, Nat.min_self, Nat.zero_min, Nat.min_zero, Nat.sub_zero, Nat.zero_mul, Int.le_refl, Nat.le_refl, Nat.lt_irrefl, Nat.mul_one, Bool.false_eq_true, Bool.true_eq_false, decide_true, decide_false, decide_eq_true_eq, decide_eq_false_iff_not, Bool.not_true, Bool.not_false, Bool.not_eq_true', Bool.not_eq_false', Bool.and_true, Bool.true_and, Bool.false_and, beq_self_eq_true, ite_true, ite_false, true_and, and_true, false_and, and_false, not_true_eq_false, not_false_eq_true, false_implies, true_implies, implies_true, eq_self, ne_eq, or_true, true_or, or_false, false_or, Bool.or_false, Bool.or_true, Bool.false_or, Bool.true_or, Int.natCast_nonneg, Int.ofNat_lt, Int.ofNat_le, Int.ofNat_inj, Int.ofNat_zero, ↓reduceIte, reduceIte, Nat.reducePow, Nat.reduceLT, Nat.reduceLeDiff, Nat.reduceEqDiff, Nat.reduceAdd, Nat.reduceMul, Nat.reduceSub, Nat.reduceBEq, reduceCtorEq, sl1, wFacts, gmA]
  refine call_fn h1 rfl ?_
  simp only [↓wPre, wPost, wFast, Nat.zero_add, Nat.add_zero, Nat.zero_lt_succ, Nat.min_self, Nat.zero_min, Nat.min_zero, Nat.sub_zero, Nat.zero_mul, Int.le_refl, Nat.le_refl, Nat.lt_irrefl, Nat.mul_one, Bool.false_eq_true, Bool.true_eq_false, decide_true, decide_false, decide_eq_true_eq, decide_eq_false_iff_not, Bool.not_true, Bool.not_false, Bool.not_eq_true', Bool.not_eq_false', Bool.and_true, Bool.true_and, Bool.false_and, beq_self_eq_true, ite_true, ite_false, true_and, and_true, false_and, and_false, not_true_eq_false, not_false_eq_true, false_implies, true_implies, implies_true, eq_self, ne_eq, or_true, true_or, or_false, false_or, Bool.or_false, Bool.or_true, Bool.false_or, Bool.true_or, Int.natCast_nonneg, Int.ofNat_lt, Int.ofNat_le, Int.ofNat_inj, Int.ofNat_zero, ↓reduceIte, reduceIte, Nat.reducePow, Nat.reduceLT, Nat.reduceLeDiff, Nat.reduceEqDiff, Nat.reduceAdd, Nat.reduceMul, Nat.reduceSub, Nat.reduceBEq, reduceCtorEq, sl1, wFacts, gmA]
  exact ret1 rfl (sees_of (settled_bool _) (by simp [AS.get, h2]))

theorem around_fn (n m : Int) (hn : in64 n) (hm : m ≠ 0) : Fn Try.prog 19 [I n, I m] (I (aroundF n m)) := by
  obtain ⟨h1, h2⟩ := hn
  refine Fn.intro (fn := Try.f19) Try.call19 Try.func19 rfl mixed 5 [] [] [] (by kernel_rfl) (Nat.le_of_ble_eq_true rfl) (by simp [settled_ints, settled_I, settled_fn0, settled_intss, settled_bool, settled_nil, settled_gmA]) (vc_soundN 1000 ?_); simp (config := { maxSteps := 2000000 }) only [AS.start, ↓wPre, wPost, wFast, Nat.zero_add, Nat.add_zero, Nat.zero_lt_succ, Nat.min_self, Nat.zero_min, Nat.min_zero, Nat.sub_zero, Nat.zero_mul, Int.le_refl, Nat.le_refl, Nat.lt_irrefl, Nat.mul_one, Bool.false_eq_true, Bool.true_eq_false, decide_true, decide_false, decide_eq_true_eq, decide_eq_false_iff_not, Bool.not_true, Bool.not_false, Bool.not_eq_true', Bool.not_eq_false', Bool.and_true, Bool.true_and, Bool.false_and, beq_self_eq_true, ite_true, ite_false, true_and, and_true, false_and, and_false, not_true_eq_false, not_false_eq_true, false_implies, true_implies, implies_true, eq_self, ne_eq, or_true, true_or, or_false, false_or, Bool.or_false, Bool.or_true, Bool.false_or, Bool.true_or, Int.natCast_nonneg, Int.ofNat_lt, Int.ofNat_le, Int.ofNat_inj, Int.ofNat_zero, ↓reduceIte, reduceIte, Nat.reducePow, Nat.reduceLT, Nat.reduceLeDiff, Nat.reduceEqDiff, Nat.reduceAdd, Nat.reduceMul, Nat.reduceSub, Nat.reduceBEq, reduceCtorEq, sl1, wFacts, gmA]
  refine ⟨fun h => ⟨hm, ret1 rfl (sees_of (settled_I _) ?_)⟩, fun h => ⟨hm, ret1 rfl (sees_of (settled_I _) ?_)⟩⟩
  · have e1 : IntKind.i64.wrap (n + 1) = n + 1 := by rw [IntKind.wrap_i64]; omega
    have e2 : IntKind.i64.wrap (-(n + 1)) = -(n + 1) := by rw [IntKind.wrap_i64]; omega
    simp [AS.get, aroundF, h, e1, e2, I]
  · simp [AS.get, aroundF, h, I]

theorem at_fn (l : List Int) (i m : Int) (hl : all64 l) (hm : m ≠ 0) : Fn Try.prog 28 [ints l, I i, I m] (I (atF l i m)) := by
  refine Fn.intro (fn := Try.f28) Try.call28 Try.func28 rfl mixed 7 [] [] [] (by kernel_rfl) (Nat.le_of_ble_eq_true rfl) (by simp [settled_ints, settled_I, settled_fn0, settled_intss, settled_bool, settled_nil, settled_gmA]) (vc_soundN 1000 ?_); simp (config := { maxSteps := 2000000 }) only [AS.start, ↓wPre, wPost, wFast, Nat.zero_add, Nat.add_zero, Nat.zero_lt_succ, Nat.min_self, Nat.zero_min, Nat.min_zero, Nat.sub_zero, Nat.zero_mul, Int.le_refl, Nat.le_refl, Nat.lt_irrefl, Nat.mul_one, Bool.false_eq_true, Bool.true_eq_false, decide_true, decide_false, decide_eq_true_eq, decide_eq_false_iff_not, Bool.not_true, Bool.not_false, Bool.not_eq_true', Bool.not_eq_false', Bool.and_true, Bool.true_and, Bool.false_and, beq_self_eq_true, ite_true, ite_false, true_and, and_true, false_and, and_false, not_true_eq_false, not_false_eq_true, false_implies, true_implies, implies_true, eq_self, ne_eq, or_true, true_or, or_false, false_or, Bool.or_false, Bool.or_true, Bool.false_or, Bool.true_or, Int.natCast_nonneg, Int.ofNat_lt, Int.ofNat_le, Int.ofNat_inj, Int.ofNat_zero, ↓reduceIte, reduceIte, Nat.reducePow, Nat.reduceLT, Nat.reduceLeDiff, Nat.reduceEqDiff, Nat.reduceAdd, Nat.reduceMul, Nat.reduceSub, Nat.reduceBEq, reduceCtorEq, sl1, wFacts, gmA]
  refine ⟨fun h => ret1 rfl (sees_of (settled_I _) ?_), fun h0 => ⟨fun h => ret1 rfl (sees_of (settled_I _) ?_), fun h => ⟨⟨by omega, by omega⟩, ?_⟩⟩⟩
  · simp [AS.get, atF, h, I]
  · simp [AS.get, atF, h, I]
  · refine ⟨by omega, call_fn (around_fn _ m (all64_at hl _) hm) rfl ?_⟩
    simp only [↓wPre, wPost, wFast, Nat.zero_add, Nat.add_zero, Nat.zero_lt_succ, Nat.min_self, Nat.zero_min, Nat.min_zero, Nat.sub_zero, Nat.zero_mul, Int.le_refl, Nat.le_refl, Nat.lt_irrefl, Nat.mul_one, Bool.false_eq_true, Bool.true_eq_false, decide_true, decide_false, decide_eq_true_eq, decide_eq_false_iff_not, Bool.not_true, Bool.not_false, Bool.not_eq_true', Bool.not_eq_false', Bool.and_true, Bool.true_and, Bool.false_and, beq_self_eq_true, ite_true, ite_false, true_and, and_true, false_and, and_false, not_true_eq_false, not_false_eq_true, false_implies, true_implies, implies_true, eq_self, ne_eq, or_true, true_or, or_false, false_or, Bool.or_false, Bool.or_true, Bool.false_or, Bool.true_or, Int.natCast_nonneg, Int.ofNat_lt, Int.ofNat_le, Int.ofNat_inj, Int.ofNat_zero, ↓reduceIte, reduceIte, Nat.reducePow, Nat.reduceLT, Nat.reduceLeDiff, Nat.reduceEqDiff, Nat.reduceAdd, Nat.reduceMul, Nat.reduceSub, Nat.reduceBEq, reduceCtorEq, sl1, wFacts, gmA]
    refine ret1 rfl (sees_of (settled_I _) ?_)
    have e : atF l i m = aroundF (l.getD i.toNat 0) m := if_neg (by omega)
    rw [e]; rfl

theorem has_fn (l : List Int) (w : Int) (hl : l.length < 1048576) : Fn Try.prog 27 [ints l, I w] (.bool (decide (w ∈ l))) := by
  refine Fn.intro (fn := Try.f27) Try.call27 Try.func27 rfl mixed 6 [] [] [] (by kernel_rfl) (Nat.le_of_ble_eq_true rfl) (by simp [settled_ints, settled_I, settled_fn0, settled_intss, settled_bool, settled_nil, settled_gmA]) (vc_soundN 1000 ?_); simp (config := { maxSteps := 2000000 }) only [AS.start, ↓wPre, wPost, wFast, Nat.zero_add, Nat.add_zero, Nat.zero_lt_succ, Nat.min_self, Nat.zero_min, Nat.min_zero, Nat.sub_zero, Nat.zero_mul, Int.le_refl, Nat.le_refl, Nat.lt_irrefl, Nat.mul_one, Bool.false_eq_true, Bool.true_eq_false, decide_true, decide_false, decide_eq_true_eq, decide_eq_false_iff_not, Bool.not_true, Bool.not_false, Bool.not_eq_true', Bool.not_eq_false', Bool.and_true, Bool.true_and, Bool.false_and, beq_self_eq_true, ite_true, ite_false, true_and, and_true, false_and, and_false, not_true_eq_false, not_false_eq_true, false_implies, true_implies, implies_true, eq_self, ne_eq, or_true, true_or, or_false, false_or, Bool.or_false, Bool.or_true, Bool.false_or, Bool.true_or, Int.natCast_nonneg, Int.ofNat_lt, Int.ofNat_le, Int.ofNat_inj, Int.ofNat_zero, ↓reduceIte, reduceIte, Nat.reducePow, Nat.reduceLT, Nat.reduceLeDiff, Nat.reduceEqDiff, Nat.reduceAdd, Nat.reduceMul, Nat.reduceSub, Nat.reduceBEq, reduceCtorEq, sl1, wFacts, gmA]
  refine run_loop (fun j : Nat => ⟨6, [], [ints l, I w, .any, .any, .any, I j], [], []⟩) (fun j => j ≤ l.length ∧ ∀ i : Nat, i < j → l.getD i 0 ≠ w) (fun j => l.length - j) 0 ⟨by omega, by omega⟩
    (sub_mk rfl (by simp [subL, ints, intss, bools, sl1, I]) (by simp [subT]) rfl) ?_
  rintro j ⟨hj, hinv⟩ next
  have w1 := wj j (by omega)
  refine vc_soundN 1000 ?_
  simp only [w1, ↓wPre, wPost, wFast, Nat.zero_add, Nat.add_zero, Nat.zero_lt_succ, Nat.min_self, Nat.zero_min, Nat.min_zero, Nat.sub_zero, Nat.zero_mul, Int.le_refl, Nat.le_refl, Nat.lt_irrefl, Nat.mul_one, Bool.false_eq_true, Bool.true_eq_false, decide_true, decide_false, decide_eq_true_eq, decide_eq_false_iff_not, Bool.not_true, Bool.not_false, Bool.not_eq_true', Bool.not_eq_false', Bool.and_true, Bool.true_and, Bool.false_and, beq_self_eq_true, ite_true, ite_false, true_and, and_true, false_and, and_false, not_true_eq_false, not_false_eq_true, false_implies, true_implies, implies_true, eq_self, ne_eq, or_true, true_or, or_false, false_or, Bool.or_false, Bool.or_true, Bool.false_or, Bool.true_or, Int.natCast_nonneg, Int.ofNat_lt, Int.ofNat_le, Int.ofNat_inj, Int.ofNat_zero, ↓reduceIte, reduceIte, Nat.reducePow, Nat.reduceLT, Nat.reduceLeDiff, Nat.reduceEqDiff, Nat.reduceAdd, Nat.reduceMul, Nat.reduceSub, Nat.reduceBEq, reduceCtorEq, sl1, wFacts, gmA]
  refine ⟨fun h => ⟨h, h, fun he => ret1 rfl (sees_of (settled_bool _) ?_), fun he => next (j + 1) _ ⟨by omega, fun i hi => ?_⟩ (by omega) (sub_mk rfl (by simp [subL, ints, intss, bools, sl1, I]) (by simp [subT]) rfl)⟩, fun h => ret1 rfl (sees_of (settled_bool _) ?_)⟩
  · have : w ∈ l := he ▸ getD_mem h
    simp [AS.get, this]
  · by_cases e : i = j
    · rw [e]; exact he
    · exact hinv i (by omega)
  · have : w ∉ l := by
      intro hm
      obtain ⟨i, h1, h2⟩ := List.getElem_of_mem hm
      exact hinv i (by omega) (by rw [List.getD_eq_getElem?_getD, List.getElem?_eq_getElem h1]; exact h2)
    simp [AS.get, this]

end
end Go.Ab.G
