/- Contracts of functions of this chapter, for every argument that fits, and what they need. -/
import Derived.Test.YtlhlhpgcjjhjkaaG3
set_option linter.unusedSimpArgs false
set_option linter.unusedVariables false
namespace Go.Ab.G
open Go Go.RowKit Go.Proofs
noncomputable section
set_option maxRecDepth 10000
set_option maxHeartbeats 2000000
set_option linter.unusedSimpArgs false
set_option linter.unusedVariables false
open Classical

theorem rvalid_fn (g : Gm) (hs : smallG g) : Fn Try.prog 15 [gmA g] (I (validF g)) := by
  obtain ⟨s1, s2, s3, s4, s5⟩ := hs
  refine Fn.intro (fn := Try.f15) Try.call15 Try.func15 rfl mixed 5 [] [] [] (by kernel_rfl) (Nat.le_of_ble_eq_true rfl) (by simp [settled_ints, settled_I, settled_fn0, settled_intss, settled_bool, settled_nil, settled_gmA]) (vc_soundN 1000 ?_); simp (config := { maxSteps := 2000000 }) only [AS.start, ↓wPre, wPost, wFast, Nat.zero_add, Nat.add_zero, Nat.zero_lt_succ, Nat.min_self, Nat.zero_min, Nat.min_zero, Nat.sub_zero, Nat.zero_mul, Int.le_refl, Nat.le_refl, Nat.lt_irrefl, Nat.mul_one, Bool.false_eq_true, Bool.true_eq_false, decide_true, decide_false, decide_eq_true_eq, decide_eq_false_iff_not, Bool.not_true, Bool.not_false, Bool.not_eq_true', Bool.not_eq_false', Bool.and_true, Bool.true_and, Bool.false_and, beq_self_eq_true, ite_true, ite_false, true_and, and_true, false_and, and_false, not_true_eq_false, not_false_eq_true, false_implies, true_implies, implies_true, eq_self, ne_eq, or_true, true_or, or_false, false_or, Bool.or_false, Bool.or_true, Bool.false_or, Bool.true_or, Int.natCast_nonneg, Int.ofNat_lt, Int.ofNat_le, Int.ofNat_inj, Int.ofNat_zero, ↓reduceIte, reduceIte, Nat.reducePow, Nat.reduceLT, Nat.reduceLeDiff, Nat.reduceEqDiff, Nat.reduceAdd, Nat.reduceMul, Nat.reduceSub, Nat.reduceBEq, reduceCtorEq, sl1, wFacts, gmA]
  have v4 : ¬ sizeG g → (I 4) = I (validF g) := fun h => by unfold validF; rw [if_neg h]
  have v1 : sizeG g → ¬ restG g → (I 1) = I (validF g) := fun h h' => by unfold validF; rw [if_pos h, if_neg h']
  have v0 : sizeG g → restG g → (I 0) = I (validF g) := fun h h' => by unfold validF; rw [if_pos h, if_pos h']
  have hn : g.n = g.own.length := rfl
  refine ⟨fun h => ret1E rfl rfl (settled_I _) (v4 ?_), fun h1 => ⟨fun h => ret1E rfl rfl (settled_I _) (v4 ?_), fun h2 => ?_⟩⟩
  · unfold sizeG; omega
  · unfold sizeG; omega
  have hsz : sizeG g := by unfold sizeG; omega
  refine ⟨fun h => ret1E rfl rfl (settled_I _) (v1 hsz fun hr => h hr.1), fun h3 => call_fn (rrising_fn g.goal g.own.length s3) rfl ?_⟩
  simp only [↓wPre, wPost, wFast, Nat.zero_add, Nat.add_zero, Nat.zero_lt_succ, Nat.min_self, Nat.zero_min, Nat.min_zero, Nat.sub_zero, Nat.zero_mul, Int.le_refl, Nat.le_refl, Nat.lt_irrefl, Nat.mul_one, Bool.false_eq_true, Bool.true_eq_false, decide_true, decide_false, decide_eq_true_eq, decide_eq_false_iff_not, Bool.not_true, Bool.not_false, Bool.not_eq_true', Bool.not_eq_false', Bool.and_true, Bool.true_and, Bool.false_and, beq_self_eq_true, ite_true, ite_false, true_and, and_true, false_and, and_false, not_true_eq_false, not_false_eq_true, false_implies, true_implies, implies_true, eq_self, ne_eq, or_true, true_or, or_false, false_or, Bool.or_false, Bool.or_true, Bool.false_or, Bool.true_or, Int.natCast_nonneg, Int.ofNat_lt, Int.ofNat_le, Int.ofNat_inj, Int.ofNat_zero, ↓reduceIte, reduceIte, Nat.reducePow, Nat.reduceLT, Nat.reduceLeDiff, Nat.reduceEqDiff, Nat.reduceAdd, Nat.reduceMul, Nat.reduceSub, Nat.reduceBEq, reduceCtorEq, sl1, wFacts, gmA]
  refine ⟨fun h => ret1E rfl rfl (settled_I _) (v1 hsz fun hr => h hr.2.1), fun h4 => call_fn (rrising_fn g.bad g.own.length s4) rfl ?_⟩
  simp only [↓wPre, wPost, wFast, Nat.zero_add, Nat.add_zero, Nat.zero_lt_succ, Nat.min_self, Nat.zero_min, Nat.min_zero, Nat.sub_zero, Nat.zero_mul, Int.le_refl, Nat.le_refl, Nat.lt_irrefl, Nat.mul_one, Bool.false_eq_true, Bool.true_eq_false, decide_true, decide_false, decide_eq_true_eq, decide_eq_false_iff_not, Bool.not_true, Bool.not_false, Bool.not_eq_true', Bool.not_eq_false', Bool.and_true, Bool.true_and, Bool.false_and, beq_self_eq_true, ite_true, ite_false, true_and, and_true, false_and, and_false, not_true_eq_false, not_false_eq_true, false_implies, true_implies, implies_true, eq_self, ne_eq, or_true, true_or, or_false, false_or, Bool.or_false, Bool.or_true, Bool.false_or, Bool.true_or, Int.natCast_nonneg, Int.ofNat_lt, Int.ofNat_le, Int.ofNat_inj, Int.ofNat_zero, ↓reduceIte, reduceIte, Nat.reducePow, Nat.reduceLT, Nat.reduceLeDiff, Nat.reduceEqDiff, Nat.reduceAdd, Nat.reduceMul, Nat.reduceSub, Nat.reduceBEq, reduceCtorEq, sl1, wFacts, gmA]
  refine ⟨fun h => ret1E rfl rfl (settled_I _) (v1 hsz fun hr => h hr.2.2.1), fun h5 => ?_⟩
  refine run_loop (fun j : Nat => ⟨5, [], [gmA g, .ref 0 0 0, .any, I g.own.length, I j], [], [.row 0 4 (ofL (gmL g))]⟩) (fun j => j ≤ g.own.length ∧ ∀ k, k < j → nodeOk g k) (fun j => g.own.length - j) 0 ⟨by omega, fun k hk => by omega⟩
    (sub_mk rfl (by simp [subL, gmA, ints, intss, sl1, I]) (by simp [subT, look, ints, intss, sl1, I]) (by simp [gmL, ints, intss, sl1])) ?_
  rintro j ⟨hj, hinv⟩ next
  have w1 := wj j (by omega)
  have hown : ow g j = g.own.getD j 0 := rfl
  have hnx : nx g j = g.nxt.getD j [] := rfl
  have bad : j < g.own.length → ¬ nodeOk g j → (I 1) = I (validF g) := fun h h' => v1 hsz fun hr => h' (hr.2.2.2 j h)
  have call : j < g.own.length → Fn Try.prog 38 [ints (g.nxt.getD j []), I g.own.length] (.bool (decide (rising (g.nxt.getD j []) g.own.length))) := fun h => rrising_fn _ _ (s5 _ (getD_mem (by omega)))
  have go : nodeOk g j → ∀ k, k < j + 1 → nodeOk g k := fun h k hk => by
    by_cases e : k = j
    · rw [e]; exact h
    · exact hinv k (by omega)
  refine vc_soundN 1000 ?_
  simp only [w1, gmL, ↓wPre, wPost, wFast, Nat.zero_add, Nat.add_zero, Nat.zero_lt_succ, Nat.min_self, Nat.zero_min, Nat.min_zero, Nat.sub_zero, Nat.zero_mul, Int.le_refl, Nat.le_refl, Nat.lt_irrefl, Nat.mul_one, Bool.false_eq_true, Bool.true_eq_false, decide_true, decide_false, decide_eq_true_eq, decide_eq_false_iff_not, Bool.not_true, Bool.not_false, Bool.not_eq_true', Bool.not_eq_false', Bool.and_true, Bool.true_and, Bool.false_and, beq_self_eq_true, ite_true, ite_false, true_and, and_true, false_and, and_false, not_true_eq_false, not_false_eq_true, false_implies, true_implies, implies_true, eq_self, ne_eq, or_true, true_or, or_false, false_or, Bool.or_false, Bool.or_true, Bool.false_or, Bool.true_or, Int.natCast_nonneg, Int.ofNat_lt, Int.ofNat_le, Int.ofNat_inj, Int.ofNat_zero, ↓reduceIte, reduceIte, Nat.reducePow, Nat.reduceLT, Nat.reduceLeDiff, Nat.reduceEqDiff, Nat.reduceAdd, Nat.reduceMul, Nat.reduceSub, Nat.reduceBEq, reduceCtorEq, sl1, wFacts, gmA]
  refine ⟨fun h => ⟨h, h, fun a1 => ret1E rfl rfl (settled_I _) (bad h ?_), fun a1 => ⟨h, h, fun a2 => ret1E rfl rfl (settled_I _) (bad h ?_), fun a2 => ⟨by omega, by omega, call_fn (call h) rfl ?_⟩⟩⟩, fun h => ret1E rfl rfl (settled_I _) (v0 hsz ⟨by omega, h4, h5, fun k hk => hinv k (by omega)⟩)⟩
  · rintro ⟨hh, _⟩; omega
  · rintro ⟨hh, _⟩; omega
  have hz : ow g j = 0 ∨ ow g j = 1 := by omega
  simp only [w1, gmL, ↓wPre, wPost, wFast, Nat.zero_add, Nat.add_zero, Nat.zero_lt_succ, Nat.min_self, Nat.zero_min, Nat.min_zero, Nat.sub_zero, Nat.zero_mul, Int.le_refl, Nat.le_refl, Nat.lt_irrefl, Nat.mul_one, Bool.false_eq_true, Bool.true_eq_false, decide_true, decide_false, decide_eq_true_eq, decide_eq_false_iff_not, Bool.not_true, Bool.not_false, Bool.not_eq_true', Bool.not_eq_false', Bool.and_true, Bool.true_and, Bool.false_and, beq_self_eq_true, ite_true, ite_false, true_and, and_true, false_and, and_false, not_true_eq_false, not_false_eq_true, false_implies, true_implies, implies_true, eq_self, ne_eq, or_true, true_or, or_false, false_or, Bool.or_false, Bool.or_true, Bool.false_or, Bool.true_or, Int.natCast_nonneg, Int.ofNat_lt, Int.ofNat_le, Int.ofNat_inj, Int.ofNat_zero, ↓reduceIte, reduceIte, Nat.reducePow, Nat.reduceLT, Nat.reduceLeDiff, Nat.reduceEqDiff, Nat.reduceAdd, Nat.reduceMul, Nat.reduceSub, Nat.reduceBEq, reduceCtorEq, sl1, wFacts, gmA]
  refine ⟨fun hr => ret1E rfl rfl (settled_I _) (bad h fun hh => hr hh.2.1), fun hr => call_fn (has_fn g.goal j s3) rfl ?_⟩
  simp only [w1, gmL, ↓wPre, wPost, wFast, Nat.zero_add, Nat.add_zero, Nat.zero_lt_succ, Nat.min_self, Nat.zero_min, Nat.min_zero, Nat.sub_zero, Nat.zero_mul, Int.le_refl, Nat.le_refl, Nat.lt_irrefl, Nat.mul_one, Bool.false_eq_true, Bool.true_eq_false, decide_true, decide_false, decide_eq_true_eq, decide_eq_false_iff_not, Bool.not_true, Bool.not_false, Bool.not_eq_true', Bool.not_eq_false', Bool.and_true, Bool.true_and, Bool.false_and, beq_self_eq_true, ite_true, ite_false, true_and, and_true, false_and, and_false, not_true_eq_false, not_false_eq_true, false_implies, true_implies, implies_true, eq_self, ne_eq, or_true, true_or, or_false, false_or, Bool.or_false, Bool.or_true, Bool.false_or, Bool.true_or, Int.natCast_nonneg, Int.ofNat_lt, Int.ofNat_le, Int.ofNat_inj, Int.ofNat_zero, ↓reduceIte, reduceIte, Nat.reducePow, Nat.reduceLT, Nat.reduceLeDiff, Nat.reduceEqDiff, Nat.reduceAdd, Nat.reduceMul, Nat.reduceSub, Nat.reduceBEq, reduceCtorEq, sl1, wFacts, gmA]
  refine ⟨fun hg => call_fn (has_fn g.bad j s4) rfl ?_, fun hg => next (j + 1) _ ⟨by omega, go ⟨hz, hr, fun hb => hg hb.1⟩⟩ (by omega) (sub_mk rfl ?_ ?_ ?_)⟩
  · simp only [w1, gmL, ↓wPre, wPost, wFast, Nat.zero_add, Nat.add_zero, Nat.zero_lt_succ, Nat.min_self, Nat.zero_min, Nat.min_zero, Nat.sub_zero, Nat.zero_mul, Int.le_refl, Nat.le_refl, Nat.lt_irrefl, Nat.mul_one, Bool.false_eq_true, Bool.true_eq_false, decide_true, decide_false, decide_eq_true_eq, decide_eq_false_iff_not, Bool.not_true, Bool.not_false, Bool.not_eq_true', Bool.not_eq_false', Bool.and_true, Bool.true_and, Bool.false_and, beq_self_eq_true, ite_true, ite_false, true_and, and_true, false_and, and_false, not_true_eq_false, not_false_eq_true, false_implies, true_implies, implies_true, eq_self, ne_eq, or_true, true_or, or_false, false_or, Bool.or_false, Bool.or_true, Bool.false_or, Bool.true_or, Int.natCast_nonneg, Int.ofNat_lt, Int.ofNat_le, Int.ofNat_inj, Int.ofNat_zero, ↓reduceIte, reduceIte, Nat.reducePow, Nat.reduceLT, Nat.reduceLeDiff, Nat.reduceEqDiff, Nat.reduceAdd, Nat.reduceMul, Nat.reduceSub, Nat.reduceBEq, reduceCtorEq, sl1, wFacts, gmA]
    refine ⟨fun hb => ret1E rfl rfl (settled_I _) (bad h fun hh => hh.2.2 ⟨hg, hb⟩), fun hb => next (j + 1) _ ⟨by omega, go ⟨hz, hr, fun hb' => hb hb'.2⟩⟩ (by omega) (sub_mk rfl ?_ ?_ ?_)⟩
    · simp [subL, gmA, ints, intss, sl1, I]
    · simp [subT, look, ints, intss, sl1, I]
    · simp [gmL, ints, intss, sl1]
  · simp [subL, gmA, ints, intss, sl1, I]
  · simp [subT, look, ints, intss, sl1, I]
  · simp [gmL, ints, intss, sl1]

/-! ### The board -/
def mapG (l : List Int) : Int → Option Value := fun n => if n ∈ l then some (.bool true) else none
def mapV (l : List Int) : Int → Option AV := fun n => if n ∈ l then some (.bool true) else none
def bdL (g : Gm) : List AV := [ints g.own, intss g.nxt, ints g.goal, ints g.bad, .cmap .i64 (mapG g.goal), .cmap .i64 (mapG g.bad)]
def bdA (g : Gm) : AV := .agg [ints g.own, intss g.nxt, ints g.goal, ints g.bad, .cmap .i64 (mapG g.goal), .cmap .i64 (mapG g.bad)]
theorem settled_bdA (g : Gm) : Settled (bdA g) := settled_agg (by simp [settled_ints, settled_intss, settled_cmap])
theorem sees_map {H : List AO} {id : Nat} {l : List Int} (ho : H[id]? = some (.map .i64 (mapV l))) : Sees H (.mp id) (.cmap .i64 (mapG l)) :=
  sees_mp ho fun n => by
    unfold mapV mapG
    by_cases h : n ∈ l
    · exact .inr (.inl ⟨true, if_pos h, if_pos h⟩)
    · exact .inl ⟨if_neg h, if_neg h⟩
theorem mapV_succ (l : List Int) (j : Nat) (h : j < l.length) : updK (mapV (l.take j)) (l.getD j 0) (.bool true) = mapV (l.take (j + 1)) := by
  funext n
  unfold updK mapV
  rw [take_succ_getD l 0 j h]
  by_cases e : n = l.getD j 0
  · rw [if_pos e, if_pos (by simp [e])]
  · rw [if_neg e]
    by_cases hm : n ∈ l.take j
    · rw [if_pos hm, if_pos (by simp [hm])]
    · rw [if_neg hm, if_neg]
      rw [List.mem_append, List.mem_singleton]
      rintro (h | h)
      · exact hm h
      · exact e h
def HB (g : Gm) (a b : Int → Option AV) : List AO := [.row 0 4 (ofL (gmL g)), .row 0 6 (ofL [.sl 0 0 (fun _ => .any) true, .sl 0 0 (fun _ => .any) true, .sl 0 0 (fun _ => .any) true, .sl 0 0 (fun _ => .any) true, .nilmap, .nilmap]), .map .i64 a, .map .i64 b, .row 0 6 (ofL (gmL g ++ [.mp 2, .mp 3]))]
theorem of_fn (g : Gm) (hs : smallG g) : Fn Try.prog 29 [gmA g] (bdA g) := by
  obtain ⟨s1, s2, s3, s4, s5⟩ := hs
  refine Fn.intro (fn := Try.f29) Try.call29 Try.func29 rfl mixed 8 [13, 14, 15, 24, 25, 26] [] [] (by kernel_rfl) (Nat.le_of_ble_eq_true rfl) (by simp [settled_ints, settled_I, settled_fn0, settled_intss, settled_bool, settled_nil, settled_gmA]) (vc_soundN 1000 ?_); simp (config := { maxSteps := 2000000 }) only [AS.start, ↓wPre, wPost, wFast, Nat.zero_add, Nat.add_zero, Nat.zero_lt_succ, Nat.min_self, Nat.zero_min, Nat.min_zero, Nat.sub_zero, Nat.zero_mul, Int.le_refl, Nat.le_refl, Nat.lt_irrefl, Nat.mul_one, Bool.false_eq_true, Bool.true_eq_false, decide_true, decide_false, decide_eq_true_eq, decide_eq_false_iff_not, Bool.not_true, Bool.not_false, Bool.not_eq_true', Bool.not_eq_false', Bool.and_true, Bool.true_and, Bool.false_and, beq_self_eq_true, ite_true, ite_false, true_and, and_true, false_and, and_false, not_true_eq_false, not_false_eq_true, false_implies, true_implies, implies_true, eq_self, ne_eq, or_true, true_or, or_false, false_or, Bool.or_false, Bool.or_true, Bool.false_or, Bool.true_or, Int.natCast_nonneg, Int.ofNat_lt, Int.ofNat_le, Int.ofNat_inj, Int.ofNat_zero, ↓reduceIte, reduceIte, Nat.reducePow, Nat.reduceLT, Nat.reduceLeDiff, Nat.reduceEqDiff, Nat.reduceAdd, Nat.reduceMul, Nat.reduceSub, Nat.reduceBEq, reduceCtorEq, sl1, wFacts, gmA]
  have e0 : mapV [] = fun _ => none := funext fun n => if_neg (by simp)
  refine run_loop (fun j : Nat => ⟨8, [13, 14, 15, 24, 25, 26], [gmA g, .ref 0 0 0, .ref 1 0 0, .ref 4 0 0, .any, .any, .any, .any], [(13, ints g.goal), (14, I g.goal.length), (15, I j)], HB g (mapV (g.goal.take j)) (mapV [])⟩) (fun j => j ≤ g.goal.length) (fun j => g.goal.length - j) 0 (by omega)
    (sub_mk rfl (by simp [subL, gmA, ints, intss, sl1, I]) (by simp [subT, look, ints, intss, sl1, I]) (by simp [HB, gmL, ints, intss, sl1, e0])) ?_
  intro j hj next
  have w1 := wj j (by omega)
  refine vc_soundN 1000 ?_
  simp only [w1, HB, gmL, ↓wPre, wPost, wFast, Nat.zero_add, Nat.add_zero, Nat.zero_lt_succ, Nat.min_self, Nat.zero_min, Nat.min_zero, Nat.sub_zero, Nat.zero_mul, Int.le_refl, Nat.le_refl, Nat.lt_irrefl, Nat.mul_one, Bool.false_eq_true, Bool.true_eq_false, decide_true, decide_false, decide_eq_true_eq, decide_eq_false_iff_not, Bool.not_true, Bool.not_false, Bool.not_eq_true', Bool.not_eq_false', Bool.and_true, Bool.true_and, Bool.false_and, beq_self_eq_true, ite_true, ite_false, true_and, and_true, false_and, and_false, not_true_eq_false, not_false_eq_true, false_implies, true_implies, implies_true, eq_self, ne_eq, or_true, true_or, or_false, false_or, Bool.or_false, Bool.or_true, Bool.false_or, Bool.true_or, Int.natCast_nonneg, Int.ofNat_lt, Int.ofNat_le, Int.ofNat_inj, Int.ofNat_zero, ↓reduceIte, reduceIte, Nat.reducePow, Nat.reduceLT, Nat.reduceLeDiff, Nat.reduceEqDiff, Nat.reduceAdd, Nat.reduceMul, Nat.reduceSub, Nat.reduceBEq, reduceCtorEq, sl1, wFacts, gmA]
  refine ⟨fun h => ⟨h, h, next (j + 1) _ (by omega) (by omega) (sub_mk rfl ?_ ?_ ?_)⟩, fun h => ?_⟩
  · simp [subL, gmA, ints, intss, sl1, I]
  · simp [subT, look, ints, intss, sl1, I]
  · have := mapV_succ g.goal j h
    simp [HB, gmL, ints, intss, sl1, ← this]
  have hj' : j = g.goal.length := by omega
  subst hj'
  rw [List.take_length]
  clear next
  refine run_loop (fun j : Nat => ⟨8, [13, 14, 15, 24, 25, 26], [gmA g, .ref 0 0 0, .ref 1 0 0, .ref 4 0 0, .any, .any, .any, .any], [(24, ints g.bad), (25, I g.bad.length), (26, I j)], HB g (mapV g.goal) (mapV (g.bad.take j))⟩) (fun j => j ≤ g.bad.length) (fun j => g.bad.length - j) 0 (by omega)
    (sub_mk rfl (by simp [subL, gmA, ints, intss, sl1, I]) (by simp [subT, look, ints, intss, sl1, I]) (by simp [HB, gmL, ints, intss, sl1])) ?_
  intro j hj next
  have w1 := wj j (by omega)
  refine vc_soundN 1000 ?_
  simp only [w1, HB, gmL, ↓wPre, wPost, wFast, Nat.zero_add, Nat.add_zero, Nat.zero_lt_succ, Nat.min_self, Nat.zero_min, Nat.min_zero, Nat.sub_zero, Nat.zero_mul, Int.le_refl, Nat.le_refl, Nat.lt_irrefl, Nat.mul_one, Bool.false_eq_true, Bool.true_eq_false, decide_true, decide_false, decide_eq_true_eq, decide_eq_false_iff_not, Bool.not_true, Bool.not_false, Bool.not_eq_true', Bool.not_eq_false', Bool.and_true, Bool.true_and, Bool.false_and, beq_self_eq_true, ite_true, ite_false, true_and, and_true, false_and, and_false, not_true_eq_false, not_false_eq_true, false_implies, true_implies, implies_true, eq_self, ne_eq, or_true, true_or, or_false, false_or, Bool.or_false, Bool.or_true, Bool.false_or, Bool.true_or, Int.natCast_nonneg, Int.ofNat_lt, Int.ofNat_le, Int.ofNat_inj, Int.ofNat_zero, ↓reduceIte, reduceIte, Nat.reducePow, Nat.reduceLT, Nat.reduceLeDiff, Nat.reduceEqDiff, Nat.reduceAdd, Nat.reduceMul, Nat.reduceSub, Nat.reduceBEq, reduceCtorEq, sl1, wFacts, gmA]
  refine ⟨fun h => ⟨h, h, next (j + 1) _ (by omega) (by omega) (sub_mk rfl ?_ ?_ ?_)⟩, fun h => ?_⟩
  · simp [subL, gmA, ints, intss, sl1, I]
  · simp [subT, look, ints, intss, sl1, I]
  · have := mapV_succ g.bad j h
    simp [HB, gmL, ints, intss, sl1, ← this]
  have hj' : j = g.bad.length := by omega
  subst hj'
  rw [List.take_length]
  refine retCellP (v := .agg [ints g.own, intss g.nxt, ints g.goal, ints g.bad, .mp 2, .mp 3]) rfl ?_ ?_
  · simp [AS.get, aload, ldk48, rd, cellsFrom, ofL, oif_true, ints, intss, sl1]
  · unfold bdA
    exact sees_agg ⟨(settled_ints _).sees _, (settled_intss _).sees _, (settled_ints _).sees _, (settled_ints _).sees _, sees_map rfl, sees_map rfl, trivial⟩
end
end Go.Ab.G
