/- Contracts of functions of this chapter, for every argument that fits, and what they need. -/
import Derived.Test.YtlhlhpgcjjhjkaaG5
set_option linter.unusedSimpArgs false
set_option linter.unusedVariables false
namespace Go.Ab.G
open Go Go.RowKit Go.Proofs
noncomputable section
set_option maxRecDepth 10000
set_option maxHeartbeats 2000000
set_option linter.unusedSimpArgs false
set_option linter.unusedVariables false
open Classical

/-! ### Choices -/
def choF (g : Gm) (k : Nat) : Int := if 0 < rk g k ∧ ow g k = 0 then ((nx g k).find? fun m => decide (rk g m.toNat = rk g k - 1)).getD (-1) else -1
theorem find_idx (p : Int → Bool) : ∀ s : List Int, s.any p = true → s.find? p = some (s.getD (s.findIdx p) 0) ∧ s.findIdx p < s.length
  | [], h => by simp at h
  | a :: s, h => by
    by_cases ha : p a = true
    · simp [List.find?_cons, ha, List.findIdx_cons]
    · have h' : s.any p = true := by simpa [ha] using h
      obtain ⟨e1, e2⟩ := find_idx p s h'
      have ha' : p a = false := by simpa using ha
      refine ⟨?_, ?_⟩
      · rw [List.find?_cons, ha', List.findIdx_cons, ha']; simpa using e1
      · rw [List.findIdx_cons, ha']; simpa using e2
theorem rk_goal {g : Gm} (hs : sizeG g) {k : Nat} (h : (k : Int) ∈ g.goal) : rk g k = 0 := by
  have h1 : F g 1 k = 0 := by rw [F_one, if_pos h]
  have hn : g.n ≠ 0 := hs.1
  unfold rk
  rw [F_keep g (r := 1) (by omega) g.n (by omega), h1]
theorem cho_any {g : Gm} (hv : restG g) (hs : sizeG g) {k : Nat} (h1 : 0 < rk g k) (h2 : ow g k = 0) : (nx g k).any (fun m => decide (rk g m.toNat = rk g k - 1)) = true := by
  obtain ⟨i, hi⟩ : ∃ i : Nat, rk g k = i := ⟨(rk g k).toNat, by omega⟩
  obtain ⟨w1, w2⟩ := rk_spec hv hi
  have hng : (k : Int) ∉ g.goal := fun hg => by rw [rk_goal hs hg] at h1; omega
  rcases w1 with w | ⟨hb, ⟨_, m, hm, h3, h4⟩ | ⟨h3, _⟩⟩
  · exact absurd w hng
  · refine List.any_eq_true.2 ⟨m, hm, decide_eq_true ?_⟩
    have := w2 (by omega)
    by_cases e : rk g m.toNat < (i : Int) - 1
    · exact absurd (.inr ⟨hb, .inl ⟨h2, m, hm, h3, e⟩⟩) this
    · omega
  · omega
theorem in64_rk (g : Gm) (hs : sizeG g) (k : Nat) : -1 ≤ rk g k ∧ rk g k < 4096 := by
  have h1 := rk_range g k
  have h2 := hs.2
  omega

theorem settled_pone {a : AV} (ha : Settled a) : Settled (.ptr 1 (ofL [a]) 0) := settled_ptr fun j hj => by
  obtain rfl : j = 0 := by omega
  exact ha
theorem solve1_fn (R : List Int) (k : Nat) (m : Int) (hk : k < R.length) (hm : 0 ≤ m ∧ m < R.length) (hR : ∀ i, -1000000 ≤ R.getD i 0 ∧ R.getD i 0 ≤ 1000000) :
    Fn Try.prog 32 [I m, .ptr 1 (ofL [ints R]) 0, .ptr 1 (ofL [I k]) 0] (.bool (decide (R.getD m.toNat 0 = R.getD k 0 - 1))) := by
  have st : ∀ a : AV, Settled a → Settled (.ptr 1 (ofL [a]) 0) := fun a ha => settled_ptr fun j hj => by
    obtain rfl : j = 0 := by omega
    exact ha
  refine Fn.intro (fn := Try.f32) Try.call32 Try.func32 rfl mixed 5 [] [] [] (by kernel_rfl) (Nat.le_of_ble_eq_true rfl) (by simp [settled_I, st _ (settled_ints R), st _ (settled_I k)]) (vc_soundN 1000 ?_)
  have hr := hR k
  have w : IntKind.i64.wrap (R.getD k 0 - 1) = R.getD k 0 - 1 := by rw [IntKind.wrap_i64]; omega
  simp only [AS.start, w, ↓wPre, wPost, wFast, Nat.zero_add, Nat.add_zero, Nat.zero_lt_succ, Nat.min_self, Nat.zero_min, Nat.min_zero, Nat.sub_zero, Nat.zero_mul, Int.le_refl, Nat.le_refl, Nat.lt_irrefl, Nat.mul_one, Bool.false_eq_true, Bool.true_eq_false, decide_true, decide_false, decide_eq_true_eq, decide_eq_false_iff_not, Bool.not_true, Bool.not_false, Bool.not_eq_true', Bool.not_eq_false', Bool.and_true, Bool.true_and, Bool.false_and, beq_self_eq_true, ite_true, ite_false, true_and, and_true, false_and, and_false, not_true_eq_false, not_false_eq_true, false_implies, true_implies, implies_true, eq_self, ne_eq, or_true, true_or, or_false, false_or, Bool.or_false, Bool.or_true, Bool.false_or, Bool.true_or, Int.natCast_nonneg, Int.ofNat_lt, Int.ofNat_le, Int.ofNat_inj, Int.ofNat_zero, ↓reduceIte, reduceIte, Nat.reducePow, Nat.reduceLT, Nat.reduceLeDiff, Nat.reduceEqDiff, Nat.reduceAdd, Nat.reduceMul, Nat.reduceSub, Nat.reduceBEq, reduceCtorEq, sl1, wFacts, gmA]
  refine ⟨hm, by omega, hk, hk, ret1E rfl rfl (settled_bool _) rfl⟩
theorem sees_one {H : List AO} {id ver : Nat} {a : AV} (ha : Settled a) (ho : H[id]? = some (.row ver 1 (ofL [a]))) : Sees H (.ref id ver 0) (.ptr 1 (ofL [a]) 0) :=
  sees_ref (.inl ho) (by omega) fun j hj => by
    obtain rfl : j = 0 := by omega
    exact ha.sees _

def choL (g : Gm) (k : Nat) : List Int := tab (fun q => if q < k then choF g q else 0) g.n
theorem any_congr {p p' : Int → Bool} {s : List Int} (h : ∀ m ∈ s, p m = p' m) : s.any p = s.any p' := by
  induction s with
  | nil => rfl
  | cons a s ih => simp only [List.any_cons]; rw [h a (by simp), ih fun m hm => h m (by simp [hm])]
theorem find_congr {p p' : Int → Bool} {s : List Int} (h : ∀ m ∈ s, p m = p' m) : s.find? p = s.find? p' := by
  induction s with
  | nil => rfl
  | cons a s ih => simp only [List.find?_cons]; rw [h a (by simp), ih fun m hm => h m (by simp [hm])]
theorem bel4 (g : Gm) (R c : List Int) : ∀ o ∈ [AO.row 0 4 (ofL (gmL g)), AO.row 0 6 (ofL (bdL g)), AO.row 0 1 (ofL [ints R]), AO.row 0 g.own.length (slF I 0 c)], belO 4 o := by
  intro o ho
  simp only [List.mem_cons, List.not_mem_nil, or_false] at ho
  rcases ho with rfl | rfl | rfl | rfl
  · intro j _
    unfold gmL ofL
    match j with
    | 0 => exact bel_of_settled (settled_ints _)
    | 1 => exact bel_of_settled (settled_intss _)
    | 2 => exact bel_of_settled (settled_ints _)
    | 3 => exact bel_of_settled (settled_ints _)
    | j + 4 => exact bel_any _
  · intro j _
    unfold bdL ofL
    match j with
    | 0 => exact bel_of_settled (settled_ints _)
    | 1 => exact bel_of_settled (settled_intss _)
    | 2 => exact bel_of_settled (settled_ints _)
    | 3 => exact bel_of_settled (settled_ints _)
    | 4 => exact bel_of_settled (settled_cmap _ _)
    | 5 => exact bel_of_settled (settled_cmap _ _)
    | j + 6 => exact bel_any _
  · intro j hj
    obtain rfl : j = 0 := by omega
    exact bel_of_settled (settled_ints _)
  · exact fun j _ => bel_I _ _
theorem bel_sl (n : Nat) : ∀ a ∈ [AV.any, .ref 0 0 0, .any, .any, .any, .any, .any, .ref 2 0 0, .osl 3 0 1 0 n, .any], Bel 4 a := by
  intro a ha
  simp only [List.mem_cons, List.not_mem_nil, or_false] at ha
  rcases ha with rfl | rfl | rfl | rfl | rfl | rfl | rfl | rfl | rfl | rfl
  all_goals first | exact bel_any _ | exact bel_ref (by omega) | exact bel_osl (by omega)
theorem bel_tm (n : Nat) (a b : Int) : ∀ p ∈ [((22 : Nat), AV.osl 3 0 1 0 n), (23, I a), (24, I b)], Bel 4 p.2 := by
  intro p hp
  simp only [List.mem_cons, List.not_mem_nil, or_false] at hp
  rcases hp with rfl | rfl | rfl
  · exact bel_osl (by omega)
  · exact bel_I _ _
  · exact bel_I _ _
theorem solve_fn (g : Gm) (hs : smallG g) : Fn Try.prog 11 [gmA g] (.tup (if validF g ≠ 0 then [ints [], ints [], I (validF g)] else [ints (tab (rk g) g.n), ints (tab (choF g) g.n), I 0])) := by
  have hs' := hs
  obtain ⟨s1, s2, s3, s4, s5⟩ := hs
  obtain ⟨res, hres⟩ : ∃ r : AV, r = .tup (if validF g ≠ 0 then [ints [], ints [], I (validF g)] else [ints (tab (rk g) g.n), ints (tab (choF g) g.n), I 0]) := ⟨_, rfl⟩
  rw [← hres]
  refine Fn.intro (fn := Try.f11) Try.call11 Try.func11 rfl mixed 10 [22, 23, 24] [] [] (by kernel_rfl) (Nat.le_of_ble_eq_true rfl) (by simp [settled_ints, settled_I, settled_fn0, settled_intss, settled_bool, settled_nil, settled_gmA]) (vc_soundN 1000 ?_); simp (config := { maxSteps := 2000000 }) only [AS.start, ↓wPre, wPost, wFast, Nat.zero_add, Nat.add_zero, Nat.zero_lt_succ, Nat.min_self, Nat.zero_min, Nat.min_zero, Nat.sub_zero, Nat.zero_mul, Int.le_refl, Nat.le_refl, Nat.lt_irrefl, Nat.mul_one, Bool.false_eq_true, Bool.true_eq_false, decide_true, decide_false, decide_eq_true_eq, decide_eq_false_iff_not, Bool.not_true, Bool.not_false, Bool.not_eq_true', Bool.not_eq_false', Bool.and_true, Bool.true_and, Bool.false_and, beq_self_eq_true, ite_true, ite_false, true_and, and_true, false_and, and_false, not_true_eq_false, not_false_eq_true, false_implies, true_implies, implies_true, eq_self, ne_eq, or_true, true_or, or_false, false_or, Bool.or_false, Bool.or_true, Bool.false_or, Bool.true_or, Int.natCast_nonneg, Int.ofNat_lt, Int.ofNat_le, Int.ofNat_inj, Int.ofNat_zero, ↓reduceIte, reduceIte, Nat.reducePow, Nat.reduceLT, Nat.reduceLeDiff, Nat.reduceEqDiff, Nat.reduceAdd, Nat.reduceMul, Nat.reduceSub, Nat.reduceBEq, reduceCtorEq, sl1, wFacts, gmA]
  refine call_fn (valid_fn g hs') rfl ?_
  simp only [gmL, ↓wPre, wPost, wFast, Nat.zero_add, Nat.add_zero, Nat.zero_lt_succ, Nat.min_self, Nat.zero_min, Nat.min_zero, Nat.sub_zero, Nat.zero_mul, Int.le_refl, Nat.le_refl, Nat.lt_irrefl, Nat.mul_one, Bool.false_eq_true, Bool.true_eq_false, decide_true, decide_false, decide_eq_true_eq, decide_eq_false_iff_not, Bool.not_true, Bool.not_false, Bool.not_eq_true', Bool.not_eq_false', Bool.and_true, Bool.true_and, Bool.false_and, beq_self_eq_true, ite_true, ite_false, true_and, and_true, false_and, and_false, not_true_eq_false, not_false_eq_true, false_implies, true_implies, implies_true, eq_self, ne_eq, or_true, true_or, or_false, false_or, Bool.or_false, Bool.or_true, Bool.false_or, Bool.true_or, Int.natCast_nonneg, Int.ofNat_lt, Int.ofNat_le, Int.ofNat_inj, Int.ofNat_zero, ↓reduceIte, reduceIte, Nat.reducePow, Nat.reduceLT, Nat.reduceLeDiff, Nat.reduceEqDiff, Nat.reduceAdd, Nat.reduceMul, Nat.reduceSub, Nat.reduceBEq, reduceCtorEq, sl1, wFacts, gmA]
  refine ⟨fun hv => ?_, fun hv => ?_⟩
  · rw [hres, if_pos hv]
    exact ret3 rfl (sees_tup ⟨sees_empty, sees_empty, (settled_I _).sees _, trivial⟩)
  rw [if_neg (by simpa using hv)] at hres
  have hv0 : validF g = 0 := by simpa using hv
  obtain ⟨hsz, hrest⟩ := valid_ok hv0
  have hsz2 : g.own.length ≤ 4096 := hsz.2
  have hnl : g.nxt.length = g.own.length := hrest.1
  refine call_fn (of_fn g hs') rfl ?_
  simp only [bdA, ↓wPre, wPost, wFast, Nat.zero_add, Nat.add_zero, Nat.zero_lt_succ, Nat.min_self, Nat.zero_min, Nat.min_zero, Nat.sub_zero, Nat.zero_mul, Int.le_refl, Nat.le_refl, Nat.lt_irrefl, Nat.mul_one, Bool.false_eq_true, Bool.true_eq_false, decide_true, decide_false, decide_eq_true_eq, decide_eq_false_iff_not, Bool.not_true, Bool.not_false, Bool.not_eq_true', Bool.not_eq_false', Bool.and_true, Bool.true_and, Bool.false_and, beq_self_eq_true, ite_true, ite_false, true_and, and_true, false_and, and_false, not_true_eq_false, not_false_eq_true, false_implies, true_implies, implies_true, eq_self, ne_eq, or_true, true_or, or_false, false_or, Bool.or_false, Bool.or_true, Bool.false_or, Bool.true_or, Int.natCast_nonneg, Int.ofNat_lt, Int.ofNat_le, Int.ofNat_inj, Int.ofNat_zero, ↓reduceIte, reduceIte, Nat.reducePow, Nat.reduceLT, Nat.reduceLeDiff, Nat.reduceEqDiff, Nat.reduceAdd, Nat.reduceMul, Nat.reduceSub, Nat.reduceBEq, reduceCtorEq, sl1, wFacts, gmA]
  refine call_fn (ranks_fn g hs' hv0) rfl ?_
  have hRl : (tab (rk g) g.n).length = g.own.length := tab_len _ _
  have hRat : ∀ k, k < g.own.length → (tab (rk g) g.n).getD k 0 = rk g k := fun k hk => tab_at _ _ _ hk
  have hRb : ∀ i, -1000000 ≤ (tab (rk g) g.n).getD i 0 ∧ (tab (rk g) g.n).getD i 0 ≤ 1000000 := fun i => by
    by_cases hi : i < g.own.length
    · rw [hRat i hi]; have := in64_rk g hsz i; omega
    · rw [List.getD_eq_getElem?_getD, List.getElem?_eq_none (by omega)]; simp
  generalize tab (rk g) g.n = R at *
  have hRe : ints R = .sl g.own.length g.own.length (slF I 0 R) false := by unfold ints sl1; rw [hRl]
  simp only [hRl, ↓wPre, wPost, wFast, Nat.zero_add, Nat.add_zero, Nat.zero_lt_succ, Nat.min_self, Nat.zero_min, Nat.min_zero, Nat.sub_zero, Nat.zero_mul, Int.le_refl, Nat.le_refl, Nat.lt_irrefl, Nat.mul_one, Bool.false_eq_true, Bool.true_eq_false, decide_true, decide_false, decide_eq_true_eq, decide_eq_false_iff_not, Bool.not_true, Bool.not_false, Bool.not_eq_true', Bool.not_eq_false', Bool.and_true, Bool.true_and, Bool.false_and, beq_self_eq_true, ite_true, ite_false, true_and, and_true, false_and, and_false, not_true_eq_false, not_false_eq_true, false_implies, true_implies, implies_true, eq_self, ne_eq, or_true, true_or, or_false, false_or, Bool.or_false, Bool.or_true, Bool.false_or, Bool.true_or, Int.natCast_nonneg, Int.ofNat_lt, Int.ofNat_le, Int.ofNat_inj, Int.ofNat_zero, ↓reduceIte, reduceIte, Nat.reducePow, Nat.reduceLT, Nat.reduceLeDiff, Nat.reduceEqDiff, Nat.reduceAdd, Nat.reduceMul, Nat.reduceSub, Nat.reduceBEq, reduceCtorEq, sl1, wFacts, gmA]
  refine ⟨⟨by omega, by omega⟩, ?_⟩
  have hCl : ∀ k, (choL g k).length = g.own.length := fun k => tab_len _ _
  refine run_loop (fun k : Nat => ⟨10, [22, 23, 24], [.any, .ref 0 0 0, .any, .any, .any, .any, .any, .ref 2 0 0, .osl 3 0 1 0 g.own.length, .any], [(22, .osl 3 0 1 0 g.own.length), (23, I g.own.length), (24, I k)],
    [.row 0 4 (ofL (gmL g)), .row 0 6 (ofL (bdL g)), .row 0 1 (ofL [ints R]), .row 0 g.own.length (slF I 0 (choL g k))]⟩) (fun k => k ≤ g.own.length) (fun k => g.own.length - k) 0 (by omega)
    ((sub_rowf 3 g.own.length (slF I 0 (choL g 0)) rfl (Nat.le_refl _) ?_).trans (sub_mk rfl ?_ ?_ ?_)) ?_
  · intro j hj
    have : (choL g 0).getD j 0 = 0 := by unfold choL; rw [tab_at _ _ _ (show j < g.n from hj), if_neg (by omega)]
    rw [slF_at, this]; rfl
  · simp [subL, I]
  · simp [subT, look, I]
  · simp [gmL, bdL, ints, intss, sl1, hRl]
  intro k hk next
  have w1 := wj k (by omega)
  refine vc_soundN 1000 ?_
  by_cases h : k < g.own.length
  rotate_left
  · simp only [w1, h, gmL, bdL, hRl, ↓wPre, wPost, wFast, Nat.zero_add, Nat.add_zero, Nat.zero_lt_succ, Nat.min_self, Nat.zero_min, Nat.min_zero, Nat.sub_zero, Nat.zero_mul, Int.le_refl, Nat.le_refl, Nat.lt_irrefl, Nat.mul_one, Bool.false_eq_true, Bool.true_eq_false, decide_true, decide_false, decide_eq_true_eq, decide_eq_false_iff_not, Bool.not_true, Bool.not_false, Bool.not_eq_true', Bool.not_eq_false', Bool.and_true, Bool.true_and, Bool.false_and, beq_self_eq_true, ite_true, ite_false, true_and, and_true, false_and, and_false, not_true_eq_false, not_false_eq_true, false_implies, true_implies, implies_true, eq_self, ne_eq, or_true, true_or, or_false, false_or, Bool.or_false, Bool.or_true, Bool.false_or, Bool.true_or, Int.natCast_nonneg, Int.ofNat_lt, Int.ofNat_le, Int.ofNat_inj, Int.ofNat_zero, ↓reduceIte, reduceIte, Nat.reducePow, Nat.reduceLT, Nat.reduceLeDiff, Nat.reduceEqDiff, Nat.reduceAdd, Nat.reduceMul, Nat.reduceSub, Nat.reduceBEq, reduceCtorEq, sl1, wFacts, gmA]
    have hk' : k = g.own.length := by omega
    subst hk'
    have e : choL g g.own.length = tab (choF g) g.n := tab_congr fun q hq => if_pos hq
    rw [hres]
    refine ret3 rfl (sees_tup ⟨sees_of (settled_ints R) hRe.symm, sees_intsE rfl rfl ?_ ?_ ?_, (settled_I _).sees _, trivial⟩)
    · rw [← e, hCl]
    · rw [e]
    · rw [← e, hCl]; exact Nat.le_refl _
  have hkn : k < g.n := h
  have hn : g.n = g.own.length := rfl
  have hnx : g.nxt.getD k [] = nx g k := rfl
  have how : g.own.getD k 0 = ow g k := rfl
  have hris := (hrest.2.2.2 k hkn).2.1
  have hnxl : (nx g k).length ≤ g.own.length := rising_len hris
  have hc1 : upd (slF I 0 (choL g k)) k (.int .i64 (-1)) = slF I 0 ((choL g k).set k (-1)) := upd_I _ _ _ (by rw [hCl]; exact h)
  simp only [w1, h, hnx, how, hc1, hRat k h, gmL, bdL, hRl, ↓wPre, wPost, wFast, Nat.zero_add, Nat.add_zero, Nat.zero_lt_succ, Nat.min_self, Nat.zero_min, Nat.min_zero, Nat.sub_zero, Nat.zero_mul, Int.le_refl, Nat.le_refl, Nat.lt_irrefl, Nat.mul_one, Bool.false_eq_true, Bool.true_eq_false, decide_true, decide_false, decide_eq_true_eq, decide_eq_false_iff_not, Bool.not_true, Bool.not_false, Bool.not_eq_true', Bool.not_eq_false', Bool.and_true, Bool.true_and, Bool.false_and, beq_self_eq_true, ite_true, ite_false, true_and, and_true, false_and, and_false, not_true_eq_false, not_false_eq_true, false_implies, true_implies, implies_true, eq_self, ne_eq, or_true, true_or, or_false, false_or, Bool.or_false, Bool.or_true, Bool.false_or, Bool.true_or, Int.natCast_nonneg, Int.ofNat_lt, Int.ofNat_le, Int.ofNat_inj, Int.ofNat_zero, ↓reduceIte, reduceIte, Nat.reducePow, Nat.reduceLT, Nat.reduceLeDiff, Nat.reduceEqDiff, Nat.reduceAdd, Nat.reduceMul, Nat.reduceSub, Nat.reduceBEq, reduceCtorEq, sl1, wFacts, gmA]
  have hdone : ∀ x, x = choF g k → (choL g k).set k x = choL g (k + 1) := fun x hx => by
    unfold choL
    rw [tab_set _ _ _ _ hkn]
    refine tab_congr fun q _ => ?_
    by_cases e : q = k
    · subst e; rw [if_pos rfl, if_pos (show q < q + 1 by omega), hx]
    · rw [if_neg e]
      by_cases h1 : q < k
      · rw [if_pos h1, if_pos (show q < k + 1 by omega)]
      · rw [if_neg h1, if_neg (show ¬ q < k + 1 by omega)]
  refine ⟨by omega, fun h1 => ⟨fun h2 => ⟨by omega, by omega, by omega, by omega, ?_⟩, fun h2 => ?_⟩, fun h1 => ?_⟩
  · have hcall := indexf_fn (nx g k) 32 [.ptr 1 (ofL [ints R]) 0, .ptr 1 (ofL [I k]) 0] (fun m => decide (R.getD m.toNat 0 = R.getD k 0 - 1)) (by omega) (by simp [settled_pone, settled_ints, settled_I]) (fun x hx => solve1_fn R k x (by omega) (by have := rising_mem hris hx; omega) hRb)
    refine call_lent hcall rfl ⟨(settled_ints _).sees _, sees_fn ⟨sees_one (settled_ints R) (by rw [hRe]; rfl), sees_one (settled_I k) rfl, trivial⟩, trivial⟩ (flat_int _ _) ?_
    simp only [w1, h, hnx, how, hc1, hRat k h, gmL, bdL, hRl, ↓wPre, wPost, wFast, Nat.zero_add, Nat.add_zero, Nat.zero_lt_succ, Nat.min_self, Nat.zero_min, Nat.min_zero, Nat.sub_zero, Nat.zero_mul, Int.le_refl, Nat.le_refl, Nat.lt_irrefl, Nat.mul_one, Bool.false_eq_true, Bool.true_eq_false, decide_true, decide_false, decide_eq_true_eq, decide_eq_false_iff_not, Bool.not_true, Bool.not_false, Bool.not_eq_true', Bool.not_eq_false', Bool.and_true, Bool.true_and, Bool.false_and, beq_self_eq_true, ite_true, ite_false, true_and, and_true, false_and, and_false, not_true_eq_false, not_false_eq_true, false_implies, true_implies, implies_true, eq_self, ne_eq, or_true, true_or, or_false, false_or, Bool.or_false, Bool.or_true, Bool.false_or, Bool.true_or, Int.natCast_nonneg, Int.ofNat_lt, Int.ofNat_le, Int.ofNat_inj, Int.ofNat_zero, ↓reduceIte, reduceIte, Nat.reducePow, Nat.reduceLT, Nat.reduceLeDiff, Nat.reduceEqDiff, Nat.reduceAdd, Nat.reduceMul, Nat.reduceSub, Nat.reduceBEq, reduceCtorEq, sl1, wFacts, gmA]
    have hp : ∀ m ∈ nx g k, (fun m : Int => decide (R.getD m.toNat 0 = rk g k - 1)) m = (fun m : Int => decide (rk g m.toNat = rk g k - 1)) m := fun m hm => by
      have := rising_mem hris hm
      simp only [hRat m.toNat (by omega)]
    have ha := cho_any hrest hsz h1 h2
    rw [← any_congr hp] at ha
    obtain ⟨f1, f2⟩ := find_idx _ _ ha
    have hidx : idxF (fun m => decide (R.getD m.toNat 0 = rk g k - 1)) (nx g k) = (((nx g k).findIdx fun m => decide (R.getD m.toNat 0 = rk g k - 1) : Nat) : Int) := if_pos ha
    have hcho : choF g k = (nx g k).getD ((nx g k).findIdx fun m => decide (R.getD m.toNat 0 = rk g k - 1)) 0 := by
      unfold choF
      rw [if_pos ⟨h1, h2⟩, ← find_congr hp, f1]; rfl
    rw [hidx]
    generalize ((nx g k).findIdx fun m => decide (R.getD m.toNat 0 = rk g k - 1)) = c at *
    have hu : upd (slF I 0 ((choL g k).set k (-1))) k (.int .i64 ((nx g k).getD c 0)) = slF I 0 (choL g (k + 1)) := by
      rw [upd_I _ _ _ (by rw [List.length_set, hCl]; exact h), List.set_set, hdone _ hcho.symm]
    simp only [Int.toNat_natCast, hu]
    refine ⟨⟨by omega, by omega⟩, f2, by omega, next (k + 1) _ (by omega) (by omega) (sub_cut (m := 4) (Nat.zero_le _) rfl ?_ ?_ ?_ (bel_sl g.own.length) (bel_tm _ _ _) (bel4 g _ _))⟩
    · simp [subL, I]
    · simp [subT, look, I]
    · simp [gmL, bdL, ints, intss, sl1, hRl]
  · have hno : choF g k = -1 := if_neg fun h => h2 h.2
    rw [hdone _ hno.symm]
    refine next (k + 1) _ (by omega) (by omega) (sub_cut (m := 4) (Nat.zero_le _) rfl ?_ ?_ ?_ (bel_sl g.own.length) (bel_tm _ _ _) (bel4 g _ _))
    · simp [subL, I]
    · simp [subT, look, I]
    · simp [gmL, bdL, ints, intss, sl1, hRl]
  · have hno : choF g k = -1 := if_neg fun h => h1 h.1
    rw [hdone _ hno.symm]
    refine next (k + 1) _ (by omega) (by omega) (sub_cut (m := 4) (Nat.zero_le _) rfl ?_ ?_ ?_ (bel_sl g.own.length) (bel_tm _ _ _) (bel4 g _ _))
    · simp [subL, I]
    · simp [subT, look, I]
    · simp [gmL, bdL, ints, intss, sl1, hRl]
end
end Go.Ab.G
