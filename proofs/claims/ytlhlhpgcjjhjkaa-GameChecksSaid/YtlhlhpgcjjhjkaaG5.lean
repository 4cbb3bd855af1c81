/- Contracts of functions of this chapter, for every argument that fits, and what they need. -/
import Derived.Test.YtlhlhpgcjjhjkaaG4
import Derived.Test.YtlhlhpgcjjhjkaaGC
set_option linter.unusedSimpArgs false
set_option linter.unusedVariables false
namespace Go.Ab.G
open Go Go.RowKit Go.Proofs
noncomputable section
set_option maxRecDepth 10000
set_option maxHeartbeats 2000000
set_option linter.unusedSimpArgs false
set_option linter.unusedVariables false
open Classical

theorem cst0_bool (b : Bool) : cst0 (.bool b) = .bool b := nrfl rfl
theorem cst0_int (k : IntKind) (n : Int) : cst0 (.int k n) = .int k n := nrfl rfl
def rankL (g : Gm) (k : Nat) : List Int := tab (fun q => if q < k then (if (q : Int) ∈ g.goal then 0 else -1) else 0) g.n
def leftL (g : Gm) (k : Nat) : List Int := tab (fun q => if q < k then ((nx g q).length : Int) else 0) g.n
def nowL (g : Gm) (k : Nat) : List Int := (allN k).filter fun q => decide (q ∈ g.goal)
theorem upd_I (l : List Int) (i : Nat) (x : Int) (h : i < l.length) : upd (slF I 0 l) i (.int .i64 x) = slF I 0 (l.set i x) := upd_slF I 0 l i x h
theorem tab_set (f : Nat → Int) (n k : Nat) (x : Int) (h : k < n) : (tab f n).set k x = tab (fun q => if q = k then x else f q) n := by
  refine tab_eq (by simp [tab_len]) fun q hq => ?_
  rw [getD_set _ _ _ _ (by rw [tab_len]; exact h)]
  by_cases e : k = q
  · subst e; rw [if_pos rfl, if_pos rfl]
  · rw [if_neg e, if_neg (Ne.symm e), tab_at _ _ _ hq]
theorem rankL_set (g : Gm) (k : Nat) (h : k < g.n) (x : Int) (hx : x = if (k : Int) ∈ g.goal then 0 else -1) : (rankL g k).set k x = rankL g (k + 1) := by
  unfold rankL
  rw [tab_set _ _ _ _ h]
  refine tab_congr fun q _ => ?_
  by_cases e : q = k
  · subst e; rw [if_pos rfl, if_pos (show q < q + 1 by omega), hx]
  · rw [if_neg e]
    by_cases h1 : q < k
    · rw [if_pos h1, if_pos (show q < k + 1 by omega)]
    · rw [if_neg h1, if_neg (show ¬ q < k + 1 by omega)]
theorem leftL_set (g : Gm) (k : Nat) (h : k < g.n) : (leftL g k).set k (nx g k).length = leftL g (k + 1) := by
  unfold leftL
  rw [tab_set _ _ _ _ h]
  refine tab_congr fun q _ => ?_
  by_cases e : q = k
  · subst e; rw [if_pos rfl, if_pos (show q < q + 1 by omega)]
  · rw [if_neg e]
    by_cases h1 : q < k
    · rw [if_pos h1, if_pos (show q < k + 1 by omega)]
    · rw [if_neg h1, if_neg (show ¬ q < k + 1 by omega)]
theorem nowL_succ (g : Gm) (k : Nat) : nowL g (k + 1) = nowL g k ++ if (k : Int) ∈ g.goal then [(k : Int)] else [] := by
  unfold nowL
  rw [allN_succ, List.filter_append]
  congr 1
  by_cases h : (k : Int) ∈ g.goal <;> simp [h]
theorem nowL_len (g : Gm) (k : Nat) : (nowL g k).length ≤ k := by
  have := List.length_filter_le (fun q : Int => decide (q ∈ g.goal)) (allN k)
  rw [allN_len] at this; exact this
theorem init_end (g : Gm) : rankL g g.n = (bst g 0).1 ∧ leftL g g.n = (bst g 0).2.1 ∧ nowL g g.n = (bst g 0).2.2 := by
  refine ⟨tab_congr fun q hq => ?_, tab_congr fun q hq => ?_, rfl⟩
  · rw [if_pos hq, F_one]
  · rw [if_pos hq]
    unfold lfF
    have : (nx g q).countP (fun m => decide (F g 0 m.toNat < 0)) = (nx g q).length := List.countP_eq_length.2 fun m _ => by simp [F]
    rw [this]

theorem weakIn_ints {H : List AO} {id ver : Nat} {l : List Int} (ho : H[id]? = some (.con ver l.length (slF I 0 l))) : WeakIn H (.osl id ver 1 0 l.length) (ints l) :=
  weakIn_osl ho (Nat.le_refl _) (fun h => h) fun _ _ => weakIn_rfl _ _
theorem bel3 (g : Gm) (a b : List Int) : ∀ o ∈ [AO.row 0 6 (ofL (bdL g)), AO.row 0 g.own.length (slF I 0 a), AO.row 0 g.own.length (slF I 0 b)], belO 3 o := by
  intro o ho
  simp only [List.mem_cons, List.not_mem_nil, or_false] at ho
  rcases ho with rfl | rfl | rfl
  · intro j _
    unfold bdL ofL
    match j with
    | 0 => exact bel_of_settled (settled_ints _)
    | 1 => exact bel_of_settled (settled_intss _)
    | 2 => exact bel_of_settled (settled_ints _)
    | 3 => exact bel_of_settled (settled_ints _)
    | 4 => exact bel_of_settled (settled_cmap _ _)
    | 5 => exact bel_of_settled (settled_cmap _ _)
    | j + 6 => exact bel_any _
  · exact fun j _ => bel_I _ _
  · exact fun j _ => bel_I _ _
def HH (g : Gm) (rk lf : List Int) (bl : Nat → List Int) (nw : List Int) : List AO :=
  .row 0 6 (ofL (bdL g)) :: .row 0 g.own.length (slF I 0 rk) :: .row 0 g.own.length (slF I 0 lf) :: .row 0 g.own.length (cels bl) :: .row nw.length nw.length (slF I 0 nw) :: objs bl g.own.length
def hidR : List Nat := [27, 28, 49, 50, 51, 83, 84, 85, 92, 93, 94]


theorem ranks_fn (g : Gm) (hs : smallG g) (hv : validF g = 0) : Fn Try.prog 30 [bdA g] (ints (tab (rk g) g.n)) := by
  obtain ⟨s1, s2, s3, s4, s5⟩ := hs
  obtain ⟨hsz, hrest⟩ := valid_ok hv
  have hsz2 : g.own.length ≤ 4096 := hsz.2
  obtain ⟨R, hR⟩ : ∃ R, R = ints (tab (rk g) g.n) := ⟨_, rfl⟩
  rw [← hR]
  have hn : g.n = g.own.length := rfl
  have hnl : g.nxt.length = g.own.length := hrest.1
  have hrl : ∀ k, (rankL g k).length = g.own.length := fun k => tab_len _ _
  have hll : ∀ k, (leftL g k).length = g.own.length := fun k => tab_len _ _
  refine Fn.intro (fn := Try.f30) Try.call30 Try.func30 rfl mixed 17 [27, 28, 49, 50, 51, 83, 84, 85, 92, 93, 94] [] [] (by kernel_rfl) (Nat.le_of_ble_eq_true rfl) (by simp [settled_bdA]) (vc_soundN 1000 ?_)
  simp (config := { maxSteps := 2000000 }) only [AS.start, bdA, ↓wPre, wPost, wFast, Nat.zero_add, Nat.add_zero, Nat.zero_lt_succ, Nat.min_self, Nat.zero_min, Nat.min_zero, Nat.sub_zero, Nat.zero_mul, Int.le_refl, Nat.le_refl, Nat.lt_irrefl, Nat.mul_one, Bool.false_eq_true, Bool.true_eq_false, decide_true, decide_false, decide_eq_true_eq, decide_eq_false_iff_not, Bool.not_true, Bool.not_false, Bool.not_eq_true', Bool.not_eq_false', Bool.and_true, Bool.true_and, Bool.false_and, beq_self_eq_true, ite_true, ite_false, true_and, and_true, false_and, and_false, not_true_eq_false, not_false_eq_true, false_implies, true_implies, implies_true, eq_self, ne_eq, or_true, true_or, or_false, false_or, Bool.or_false, Bool.or_true, Bool.false_or, Bool.true_or, Int.natCast_nonneg, Int.ofNat_lt, Int.ofNat_le, Int.ofNat_inj, Int.ofNat_zero, ↓reduceIte, reduceIte, Nat.reducePow, Nat.reduceLT, Nat.reduceLeDiff, Nat.reduceEqDiff, Nat.reduceAdd, Nat.reduceMul, Nat.reduceSub, Nat.reduceBEq, reduceCtorEq, sl1, wFacts, gmA]
  refine ⟨⟨by omega, by omega⟩, ⟨by omega, by omega⟩, ⟨by omega, by omega⟩, ?_⟩
  refine run_loop (fun k : Nat => ⟨17, [27, 28, 49, 50, 51, 83, 84, 85, 92, 93, 94], [.any, .ref 0 0 0, .any, I g.own.length, .osl 1 0 1 0 g.own.length, .osl 2 0 1 0 g.own.length, .osl 3 0 1 0 g.own.length, .osl 4 (nowL g k).length 1 0 (nowL g k).length, .any, .any, .any, .any, .any, .any, .any, .any, .any],
    [(27, I g.own.length), (28, I k)], HH g (rankL g k) (leftL g k) (backI g k) (nowL g k)⟩) (fun k => k ≤ g.own.length) (fun k => g.own.length - k) 0 (by omega)
    ?_ ?_
  · let SS : List AO → AS := fun h => ⟨17, [27, 28, 49, 50, 51, 83, 84, 85, 92, 93, 94], [.any, .ref 0 0 0, .any, I g.own.length, .osl 1 0 1 0 g.own.length, .osl 2 0 1 0 g.own.length, .osl 3 0 1 0 g.own.length, .osl 4 0 1 0 0, .any, .any, .any, .any, .any, .any, .any, .any, .any], [(27, I g.own.length), (28, I 0)], h⟩
    let S1 : AS := SS [.row 0 6 (ofL (bdL g)), .row 0 g.own.length (fun _ => .int .i64 0), .row 0 g.own.length (fun _ => .int .i64 0), .row 0 g.own.length (fun _ => .sl 0 0 (fun _ => .any) true), .row 0 0 (slF I 0 [])]
    let S2 : AS := SS ([.row 0 6 (ofL (bdL g)), .row 0 g.own.length (fun _ => .int .i64 0), .row 0 g.own.length (fun _ => .int .i64 0), .row 0 g.own.length (fun j => if j < g.own.length then .osl (5 + j) 0 1 0 0 else .sl 0 0 (fun _ => .any) true), .row 0 0 (slF I 0 [])] ++ List.replicate g.own.length (.row 0 0 (slF I 0 [])))
    let S3 : AS := SS ([.row 0 6 (ofL (bdL g)), .row 0 g.own.length (fun _ => .int .i64 0), .row 0 g.own.length (fun _ => .int .i64 0), .row 0 g.own.length (cels fun _ => []), .row 0 0 (slF I 0 [])] ++ List.replicate g.own.length (.row 0 0 (slF I 0 [])))
    let S4 : AS := SS ([.row 0 6 (ofL (bdL g)), .row 0 g.own.length (slF I 0 (rankL g 0)), .row 0 g.own.length (fun _ => .int .i64 0), .row 0 g.own.length (cels fun _ => []), .row 0 0 (slF I 0 [])] ++ List.replicate g.own.length (.row 0 0 (slF I 0 [])))
    refine (sub_adopt 7 1 (slF I 0 []) rfl).trans ?_
    refine Sub.trans (b := S1) (sub_mk rfl ?_ ?_ ?_) ?_
    · simp [S1, SS, subL, AS.put, I]
    · simp [S1, SS, AS.put, subT, look, I]
    · simp [S1, SS, AS.put, bdL, ints, intss, sl1]
    refine (sub_adoptc (s := S1) 3 1 (slF I 0 []) rfl g.own.length (Nat.le_refl _)).trans ?_
    refine Sub.trans (b := S2) (sub_mk rfl ?_ ?_ ?_) ?_
    · simp [S1, S2, SS, subL]
    · simp [S1, S2, SS, subT, look]
    · simp [S1, S2, SS]
    refine (sub_rowf (s := S2) 3 g.own.length (cels fun _ => []) rfl (Nat.le_refl _) ?_).trans ?_
    · intro j hj
      simp only [if_pos hj, cels, List.length_nil]
      rw [Nat.add_comm]
    refine Sub.trans (b := S3) (sub_mk rfl ?_ ?_ ?_) ?_
    · simp [S2, S3, SS, subL]
    · simp [S2, S3, SS, subT, look]
    · simp [S2, S3, SS]
    refine (sub_rowf (s := S3) 1 g.own.length (slF I 0 (rankL g 0)) rfl (Nat.le_refl _) ?_).trans ?_
    · intro j hj
      have : (rankL g 0).getD j 0 = 0 := by unfold rankL; rw [tab_at _ _ _ (show j < g.n from hj), if_neg (by omega)]
      rw [slF_at, this]; rfl
    refine Sub.trans (b := S4) (sub_mk rfl ?_ ?_ ?_) ?_
    · simp [S4, S3, SS, subL]
    · simp [S4, S3, SS, subT, look]
    · simp [S4, S3, SS]
    refine (sub_rowf (s := S4) 2 g.own.length (slF I 0 (leftL g 0)) rfl (Nat.le_refl _) ?_).trans (sub_mk rfl ?_ ?_ ?_)
    · intro j hj
      have : (leftL g 0).getD j 0 = 0 := by unfold leftL; rw [tab_at _ _ _ (show j < g.n from hj), if_neg (by omega)]
      rw [slF_at, this]; rfl
    · simp [S4, SS, subL, nowL, allN]
    · simp [S4, SS, subT, look]
    · simp [S4, SS, HH, backI_zero, objs_empty, nowL, allN]
  intro k hk next
  have w1 := wj k (by omega)
  have hnx : g.nxt.getD k [] = nx g k := rfl
  refine vc_soundN 1000 ?_
  simp (config := { maxSteps := 2000000 }) only [w1, hnx, HH, bdL, ↓wPre, wPost, wFast, Nat.zero_add, Nat.add_zero, Nat.zero_lt_succ, Nat.min_self, Nat.zero_min, Nat.min_zero, Nat.sub_zero, Nat.zero_mul, Int.le_refl, Nat.le_refl, Nat.lt_irrefl, Nat.mul_one, Bool.false_eq_true, Bool.true_eq_false, decide_true, decide_false, decide_eq_true_eq, decide_eq_false_iff_not, Bool.not_true, Bool.not_false, Bool.not_eq_true', Bool.not_eq_false', Bool.and_true, Bool.true_and, Bool.false_and, beq_self_eq_true, ite_true, ite_false, true_and, and_true, false_and, and_false, not_true_eq_false, not_false_eq_true, false_implies, true_implies, implies_true, eq_self, ne_eq, or_true, true_or, or_false, false_or, Bool.or_false, Bool.or_true, Bool.false_or, Bool.true_or, Int.natCast_nonneg, Int.ofNat_lt, Int.ofNat_le, Int.ofNat_inj, Int.ofNat_zero, ↓reduceIte, reduceIte, Nat.reducePow, Nat.reduceLT, Nat.reduceLeDiff, Nat.reduceEqDiff, Nat.reduceAdd, Nat.reduceMul, Nat.reduceSub, Nat.reduceBEq, reduceCtorEq, sl1, wFacts, gmA]
  refine ⟨fun h => ⟨by omega, by omega, h, by omega, h, by omega, by omega, by omega, ?_⟩, fun h => ?_⟩
  · have hkn : k < g.n := h
    have hris := (hrest.2.2.2 k hkn).2.1
    have hnxl : (nx g k).length ≤ g.own.length := rising_len hris
    have hnw := nowL_len g k
    have hr1 : upd (slF I 0 (rankL g k)) k (.int .i64 (-1)) = slF I 0 ((rankL g k).set k (-1)) := upd_I _ _ _ (by rw [hrl]; exact h)
    have hl1 : upd (slF I 0 (leftL g k)) k (.int .i64 (nx g k).length) = slF I 0 (leftL g (k + 1)) := by rw [upd_I _ _ _ (by rw [hll]; exact h), leftL_set g k hkn]
    refine run_loop (fun i : Nat => ⟨17, [27, 28, 49, 50, 51, 83, 84, 85, 92, 93, 94], [.any, .ref 0 0 0, .any, I g.own.length, .osl 1 0 1 0 g.own.length, .osl 2 0 1 0 g.own.length, .osl 3 0 1 0 g.own.length, .osl 4 (nowL g k).length 1 0 (nowL g k).length, I k, .any, .any, .any, .any, .any, .any, .any, .any],
      [(27, I g.own.length), (28, I k), (49, ints (nx g k)), (50, I (nx g k).length), (51, I i)], HH g ((rankL g k).set k (-1)) (leftL g (k + 1)) (backJ g k i) (nowL g k)⟩) (fun i => i ≤ (nx g k).length) (fun i => (nx g k).length - i) 0 (by omega)
      (sub_mk rfl (by simp [subL, I]) (by simp [subT, look, ints, sl1, I]) ?_) ?_
    · rw [hr1, hl1, backJ_zero]
      simp [HH, bdL, ints, intss, sl1]
    intro i hi nexti
    have w2 := wj i (by omega)
    refine vc_soundN 1000 ?_
    simp (config := { maxSteps := 2000000 }) only [w1, w2, HH, bdL, ↓wPre, wPost, wFast, Nat.zero_add, Nat.add_zero, Nat.zero_lt_succ, Nat.min_self, Nat.zero_min, Nat.min_zero, Nat.sub_zero, Nat.zero_mul, Int.le_refl, Nat.le_refl, Nat.lt_irrefl, Nat.mul_one, Bool.false_eq_true, Bool.true_eq_false, decide_true, decide_false, decide_eq_true_eq, decide_eq_false_iff_not, Bool.not_true, Bool.not_false, Bool.not_eq_true', Bool.not_eq_false', Bool.and_true, Bool.true_and, Bool.false_and, beq_self_eq_true, ite_true, ite_false, true_and, and_true, false_and, and_false, not_true_eq_false, not_false_eq_true, false_implies, true_implies, implies_true, eq_self, ne_eq, or_true, true_or, or_false, false_or, Bool.or_false, Bool.or_true, Bool.false_or, Bool.true_or, Int.natCast_nonneg, Int.ofNat_lt, Int.ofNat_le, Int.ofNat_inj, Int.ofNat_zero, ↓reduceIte, reduceIte, Nat.reducePow, Nat.reduceLT, Nat.reduceLeDiff, Nat.reduceEqDiff, Nat.reduceAdd, Nat.reduceMul, Nat.reduceSub, Nat.reduceBEq, reduceCtorEq, sl1, wFacts, gmA]
    refine ⟨fun h2 => ?_, fun h2 => ?_⟩
    · have hm := rising_mem hris (getD_mem (d := 0) h2)
      have hbs := backJ_succ g hrest k i hkn h2
      have hml : ((nx g k).getD i 0).toNat < g.own.length := by omega
      have hbl := backJ_len g k i ((nx g k).getD i 0).toNat
      generalize ((nx g k).getD i 0).toNat = m at hbs hml hbl ⊢
      have hc : cels (backJ g k i) m = .osl (m + 5) (backJ g k i m).length 1 0 (backJ g k i m).length := rfl
      have ho := objs_at (backJ g k i) g.own.length m hml
      have hset := objs_set (backJ g k i) g.own.length m (backJ g k i m ++ [(k : Int)])
      rw [hbs, List.length_append] at hset
      have hcu := cels_upd (backJ g k i) m (backJ g k i m ++ [(k : Int)])
      rw [hbs, List.length_append] at hcu
      simp only [List.length_cons, List.length_nil, Nat.zero_add] at hset hcu
      simp (config := { maxSteps := 2000000 }) only [w1, w2, hc, ho, hset, hcu, ↓wPre, wPost, wFast, Nat.zero_add, Nat.add_zero, Nat.zero_lt_succ, Nat.min_self, Nat.zero_min, Nat.min_zero, Nat.sub_zero, Nat.zero_mul, Int.le_refl, Nat.le_refl, Nat.lt_irrefl, Nat.mul_one, Bool.false_eq_true, Bool.true_eq_false, decide_true, decide_false, decide_eq_true_eq, decide_eq_false_iff_not, Bool.not_true, Bool.not_false, Bool.not_eq_true', Bool.not_eq_false', Bool.and_true, Bool.true_and, Bool.false_and, beq_self_eq_true, ite_true, ite_false, true_and, and_true, false_and, and_false, not_true_eq_false, not_false_eq_true, false_implies, true_implies, implies_true, eq_self, ne_eq, or_true, true_or, or_false, false_or, Bool.or_false, Bool.or_true, Bool.false_or, Bool.true_or, Int.natCast_nonneg, Int.ofNat_lt, Int.ofNat_le, Int.ofNat_inj, Int.ofNat_zero, ↓reduceIte, reduceIte, Nat.reducePow, Nat.reduceLT, Nat.reduceLeDiff, Nat.reduceEqDiff, Nat.reduceAdd, Nat.reduceMul, Nat.reduceSub, Nat.reduceBEq, reduceCtorEq, sl1, wFacts, gmA]
      refine ⟨h2, h2, ⟨hm.1, hm.2⟩, hml, ⟨by omega, by omega⟩, ⟨hm.1, hm.2⟩, by omega, nexti (i + 1) _ (by omega) (by omega) (sub_mk rfl ?_ ?_ ?_)⟩
      · simp [subL, I]
      · simp [subT, look, ints, sl1, I]
      · simp [HH, bdL, ints, intss, sl1]
    · have hi' : i = (nx g k).length := by omega
      subst hi'
      rw [backJ_end]
      by_cases hg : (k : Int) ∈ g.goal
      · have hgm : mapG g.goal k = some (.bool true) := if_pos hg
        have hr2 : upd (slF I 0 ((rankL g k).set k (-1))) k (.int .i64 0) = slF I 0 (rankL g (k + 1)) := by
          rw [upd_I _ _ _ (by rw [List.length_set, hrl]; exact h), List.set_set, rankL_set g k hkn 0 (by rw [if_pos hg])]
        have hns : nowL g (k + 1) = nowL g k ++ [(k : Int)] := by rw [nowL_succ, if_pos hg]
        simp (config := { maxSteps := 2000000 }) only [w1, hgm, cst0_bool, hr2, ← hns, ↓wPre, wPost, wFast, Nat.zero_add, Nat.add_zero, Nat.zero_lt_succ, Nat.min_self, Nat.zero_min, Nat.min_zero, Nat.sub_zero, Nat.zero_mul, Int.le_refl, Nat.le_refl, Nat.lt_irrefl, Nat.mul_one, Bool.false_eq_true, Bool.true_eq_false, decide_true, decide_false, decide_eq_true_eq, decide_eq_false_iff_not, Bool.not_true, Bool.not_false, Bool.not_eq_true', Bool.not_eq_false', Bool.and_true, Bool.true_and, Bool.false_and, beq_self_eq_true, ite_true, ite_false, true_and, and_true, false_and, and_false, not_true_eq_false, not_false_eq_true, false_implies, true_implies, implies_true, eq_self, ne_eq, or_true, true_or, or_false, false_or, Bool.or_false, Bool.or_true, Bool.false_or, Bool.true_or, Int.natCast_nonneg, Int.ofNat_lt, Int.ofNat_le, Int.ofNat_inj, Int.ofNat_zero, ↓reduceIte, reduceIte, Nat.reducePow, Nat.reduceLT, Nat.reduceLeDiff, Nat.reduceEqDiff, Nat.reduceAdd, Nat.reduceMul, Nat.reduceSub, Nat.reduceBEq, reduceCtorEq, sl1, wFacts, gmA]
        refine ⟨h, by omega, ⟨by omega, by omega⟩, next (k + 1) _ (by omega) (by omega) (sub_mk rfl ?_ ?_ ?_)⟩
        · simp [subL, I, hns]
        · simp [subT, look, ints, sl1, I]
        · simp [HH, bdL, ints, intss, sl1, hns]
      · have hgm : mapG g.goal k = none := if_neg hg
        have hr2 : (rankL g k).set k (-1) = rankL g (k + 1) := rankL_set g k hkn _ (by rw [if_neg hg])
        have hns : nowL g (k + 1) = nowL g k := by rw [nowL_succ, if_neg hg, List.append_nil]
        simp (config := { maxSteps := 2000000 }) only [w1, hgm, cst0_bool, hr2, ↓wPre, wPost, wFast, Nat.zero_add, Nat.add_zero, Nat.zero_lt_succ, Nat.min_self, Nat.zero_min, Nat.min_zero, Nat.sub_zero, Nat.zero_mul, Int.le_refl, Nat.le_refl, Nat.lt_irrefl, Nat.mul_one, Bool.false_eq_true, Bool.true_eq_false, decide_true, decide_false, decide_eq_true_eq, decide_eq_false_iff_not, Bool.not_true, Bool.not_false, Bool.not_eq_true', Bool.not_eq_false', Bool.and_true, Bool.true_and, Bool.false_and, beq_self_eq_true, ite_true, ite_false, true_and, and_true, false_and, and_false, not_true_eq_false, not_false_eq_true, false_implies, true_implies, implies_true, eq_self, ne_eq, or_true, true_or, or_false, false_or, Bool.or_false, Bool.or_true, Bool.false_or, Bool.true_or, Int.natCast_nonneg, Int.ofNat_lt, Int.ofNat_le, Int.ofNat_inj, Int.ofNat_zero, ↓reduceIte, reduceIte, Nat.reducePow, Nat.reduceLT, Nat.reduceLeDiff, Nat.reduceEqDiff, Nat.reduceAdd, Nat.reduceMul, Nat.reduceSub, Nat.reduceBEq, reduceCtorEq, sl1, wFacts, gmA]
        refine next (k + 1) _ (by omega) (by omega) (sub_mk rfl ?_ ?_ ?_)
        · simp [subL, I, hns]
        · simp [subT, look, ints, sl1, I]
        · simp [HH, bdL, ints, intss, sl1, hns]
  have hk' : k = g.own.length := by omega
  subst hk'
  clear next
  obtain ⟨i1, i2, i3⟩ := init_end g
  rw [hn] at i1 i2 i3
  rw [i1, i2, i3]
  have hb1 := bst_len g hrest hsz
  have hni := now_in g hrest hsz
  refine run_loop (fun i : Nat => ⟨17, [27, 28, 49, 50, 51, 83, 84, 85, 92, 93, 94], [.any, .ref 0 0 0, .any, I g.own.length, .osl 1 0 1 0 g.own.length, .osl 2 0 1 0 g.own.length, intss (backs g), ints (bst g i).2.2, .any, .any, .any, I (i + 1 : Nat), .any, .any, .any, .any, .any], [],
    [.row 0 6 (ofL (bdL g)), .row 0 g.own.length (slF I 0 (bst g i).1), .row 0 g.own.length (slF I 0 (bst g i).2.1)]⟩) (fun i => i ≤ g.own.length) (fun i => g.own.length - i) 0 (by omega) ?_ ?_
  · let T : AV → AV → AO → AO → List AO → AS := fun x6 x7 o3 o4 rest => ⟨17, [27, 28, 49, 50, 51, 83, 84, 85, 92, 93, 94], [.any, .ref 0 0 0, .any, I g.own.length, .osl 1 0 1 0 g.own.length, .osl 2 0 1 0 g.own.length, x6, x7, .any, .any, .any, I 1, .any, .any, .any, .any, .any], [],
      .row 0 6 (ofL (bdL g)) :: .row 0 g.own.length (slF I 0 (bst g 0).1) :: .row 0 g.own.length (slF I 0 (bst g 0).2.1) :: o3 :: o4 :: rest⟩
    let L := (bst g 0).2.2
    let bl := backI g g.own.length
    let cns : List AO := (List.range g.own.length).map fun q => .con (bl q).length (bl q).length (slF I 0 (bl q))
    refine Sub.trans (b := T (.osl 3 0 1 0 g.own.length) (.osl 4 L.length 1 0 L.length) (.row 0 g.own.length (cels bl)) (.row L.length L.length (slF I 0 L)) (objs bl g.own.length)) (sub_mk rfl ?_ ?_ ?_) ?_
    · simp [T, L, subL, I]
    · simp [T, subT]
    · simp [T, L, bl, bdL, ints, intss, sl1]
    refine Sub.trans (b := T (.osl 3 0 1 0 g.own.length) (.osl 4 L.length 1 0 L.length) (.row 0 g.own.length (cels bl)) (.row L.length L.length (slF I 0 L)) cns) ?_ ?_
    · exact sub_cons [.row 0 6 (ofL (bdL g)), .row 0 g.own.length (slF I 0 (bst g 0).1), .row 0 g.own.length (slF I 0 (bst g 0).2.1), .row 0 g.own.length (cels bl), .row L.length L.length (slF I 0 L)]
        (fun q => .row (bl q).length (bl q).length (slF I 0 (bl q))) (fun q => .con (bl q).length (bl q).length (slF I 0 (bl q))) g.own.length (fun q => ⟨_, _, _, rfl, rfl⟩) rfl
    refine Sub.trans (b := T (.osl 3 0 1 0 g.own.length) (.osl 4 L.length 1 0 L.length) (.row 0 g.own.length (slF ints [] (backs g))) (.row L.length L.length (slF I 0 L)) cns) ?_ ?_
    · refine sub_roww 3 _ rfl fun q hq => ?_
      have e : slF ints [] (backs g) q = .sl (bl q).length (bl q).length (slF I 0 (bl q)) false := by
        show ints ((backs g).getD q []) = _
        rw [backs_eq g q hq]; rfl
      rw [e]
      refine weakIn_osl (ver := (bl q).length) (k := (bl q).length) (f := slF I 0 (bl q)) ?_ (Nat.le_refl _) (fun h => h) fun j _ => weakIn_rfl _ _
      show cns[q]? = _
      simp [cns, hq]
    refine (sub_con 3 rfl).trans ?_
    have hbl : intss (backs g) = .sl g.own.length g.own.length (slF ints [] (backs g)) false := by unfold intss sl1; rw [backs_len]; rfl
    refine (sub_weakIn 6 (intss (backs g)) (show 6 < 17 by decide) (by rw [hbl]; exact weakIn_osl (k := g.own.length) (f := slF ints [] (backs g)) rfl (Nat.le_refl _) (fun h => h) fun j _ => weakIn_rfl _ _)).trans ?_
    refine (sub_con 4 rfl).trans ?_
    refine (sub_weakIn 7 (ints L) (show 7 < 17 by decide) (weakIn_ints rfl)).trans ?_
    refine sub_cut (m := 3) (Nat.zero_le _) rfl ?_ ?_ ?_ ?_ ?_ ?_
    · simp [T, L, subL]
    · simp [T, subT]
    · simp [T]
    · intro a ha
      simp only [List.mem_cons, List.not_mem_nil, or_false] at ha
      rcases ha with rfl | rfl | rfl | rfl | rfl | rfl | rfl | rfl | rfl | rfl | rfl | rfl | rfl | rfl | rfl | rfl | rfl
      all_goals first | exact bel_any _ | exact bel_I _ _ | exact bel_ref (by omega) | exact bel_osl (by omega) | exact bel_of_settled (settled_intss _) | exact bel_of_settled (settled_ints _)
    · intro p hp; cases hp
    · exact bel3 g _ _
  intro i hi next
  have w1 := wj (i + 1) (by omega)
  refine vc_soundN 1000 ?_
  simp (config := { maxSteps := 2000000 }) only [w1, bdL, ↓wPre, wPost, wFast, Nat.zero_add, Nat.add_zero, Nat.zero_lt_succ, Nat.min_self, Nat.zero_min, Nat.min_zero, Nat.sub_zero, Nat.zero_mul, Int.le_refl, Nat.le_refl, Nat.lt_irrefl, Nat.mul_one, Bool.false_eq_true, Bool.true_eq_false, decide_true, decide_false, decide_eq_true_eq, decide_eq_false_iff_not, Bool.not_true, Bool.not_false, Bool.not_eq_true', Bool.not_eq_false', Bool.and_true, Bool.true_and, Bool.false_and, beq_self_eq_true, ite_true, ite_false, true_and, and_true, false_and, and_false, not_true_eq_false, not_false_eq_true, false_implies, true_implies, implies_true, eq_self, ne_eq, or_true, true_or, or_false, false_or, Bool.or_false, Bool.or_true, Bool.false_or, Bool.true_or, Int.natCast_nonneg, Int.ofNat_lt, Int.ofNat_le, Int.ofNat_inj, Int.ofNat_zero, ↓reduceIte, reduceIte, Nat.reducePow, Nat.reduceLT, Nat.reduceLeDiff, Nat.reduceEqDiff, Nat.reduceAdd, Nat.reduceMul, Nat.reduceSub, Nat.reduceBEq, reduceCtorEq, sl1, wFacts, gmA]
  have hi1 := bst_len g hrest hsz i
  obtain ⟨hin, hinl⟩ := now_in g hrest hsz i
  refine ⟨fun h0 => ?_, fun h0 => ret1 rfl ?_⟩
  rotate_left
  · have he : (bst g i).2.2 = [] := List.length_eq_zero_iff.1 (by omega)
    have hend := bst_end g hrest hsz i he
    rw [hR, ← hend]
    exact sees_intsE rfl rfl hi1.1.symm rfl (by rw [hi1.1]; exact Nat.le_refl _)
  have hne : (bst g i).2.2 ≠ [] := fun e => by rw [e] at h0; simp at h0
  have hig := bst_more g hrest hsz i hne
  have hl0 := layAt_zero g i
  have hln := fun a b ha => layAt_len g hrest hsz i a b ha
  have hend := layAt_end g i
  generalize hS : bst g i = s at *
  obtain ⟨s1', s2', now⟩ := s
  simp only at h0 hin hinl hne hl0 hln hi1
  refine run_loop (fun a : Nat => ⟨17, [27, 28, 49, 50, 51, 83, 84, 85, 92, 93, 94], [.any, .ref 0 0 0, .any, I g.own.length, .osl 1 0 1 0 g.own.length, .osl 2 0 1 0 g.own.length, intss (backs g), .any, .any, .any, .any, I (i + 1 : Nat), .osl 3 (layAt g i a 0).2.2.length 1 0 (layAt g i a 0).2.2.length, .any, .any, .any, .any],
    [(83, ints now), (84, I now.length), (85, I a)], [.row 0 6 (ofL (bdL g)), .row 0 g.own.length (slF I 0 (layAt g i a 0).1), .row 0 g.own.length (slF I 0 (layAt g i a 0).2.1), .row (layAt g i a 0).2.2.length (layAt g i a 0).2.2.length (slF I 0 (layAt g i a 0).2.2)]⟩) (fun a => a ≤ now.length) (fun a => now.length - a) 0 (by omega)
    ((sub_adopt 12 1 (slF I 0 []) rfl).trans (sub_mk rfl ?_ ?_ ?_)) ?_
  · simp [AS.put, subL, I, hl0, intss, sl1]
  · simp [AS.put, subT, look, ints, sl1, I]
  · simp [AS.put, hl0, bdL, ints, intss, sl1]
  intro a ha nexta
  have w2 := wj a (by omega)
  refine vc_soundN 1000 ?_
  simp (config := { maxSteps := 2000000 }) only [w1, w2, bdL, ↓wPre, wPost, wFast, Nat.zero_add, Nat.add_zero, Nat.zero_lt_succ, Nat.min_self, Nat.zero_min, Nat.min_zero, Nat.sub_zero, Nat.zero_mul, Int.le_refl, Nat.le_refl, Nat.lt_irrefl, Nat.mul_one, Bool.false_eq_true, Bool.true_eq_false, decide_true, decide_false, decide_eq_true_eq, decide_eq_false_iff_not, Bool.not_true, Bool.not_false, Bool.not_eq_true', Bool.not_eq_false', Bool.and_true, Bool.true_and, Bool.false_and, beq_self_eq_true, ite_true, ite_false, true_and, and_true, false_and, and_false, not_true_eq_false, not_false_eq_true, false_implies, true_implies, implies_true, eq_self, ne_eq, or_true, true_or, or_false, false_or, Bool.or_false, Bool.or_true, Bool.false_or, Bool.true_or, Int.natCast_nonneg, Int.ofNat_lt, Int.ofNat_le, Int.ofNat_inj, Int.ofNat_zero, ↓reduceIte, reduceIte, Nat.reducePow, Nat.reduceLT, Nat.reduceLeDiff, Nat.reduceEqDiff, Nat.reduceAdd, Nat.reduceMul, Nat.reduceSub, Nat.reduceBEq, reduceCtorEq, sl1, wFacts, gmA]
  have hbl := backs_len g
  refine ⟨fun h2 => ?_, fun h2 => ?_⟩
  rotate_left
  · have ha' : a = now.length := by omega
    subst ha'
    rw [hend]
    refine next (i + 1) _ (by omega) (by omega) ?_
    refine (sub_con 3 rfl).trans ((sub_weakIn 7 (ints (bst g (i + 1)).2.2) (show 7 < 17 by decide) (weakIn_ints rfl)).trans (sub_cut (m := 3) (Nat.zero_le _) rfl ?_ ?_ ?_ ?_ ?_ (bel3 g _ _)))
    · simp [subL, intss, sl1, I]
    · simp [subT]
    · simp [bdL, ints, intss, sl1]
    · intro a ha
      simp only [List.mem_cons, List.not_mem_nil, or_false] at ha
      rcases ha with rfl | rfl | rfl | rfl | rfl | rfl | rfl | rfl | rfl | rfl | rfl | rfl | rfl | rfl | rfl | rfl | rfl
      all_goals first | exact bel_any _ | exact bel_I _ _ | exact bel_ref (by omega) | exact bel_osl (by omega) | exact bel_of_settled (settled_intss _) | exact bel_of_settled (settled_ints _)
    · intro p hp; cases hp
  obtain ⟨hm1, hm2⟩ := hin _ (getD_mem (d := 0) h2)
  refine ⟨h2, h2, by omega, by omega, ?_⟩
  have hsucc := layAt_succ g i a
  have hnxt := layAt_next g i a
  have hln' := fun b => hln a b h2
  have hB : ∀ k ∈ (backs g).getD (now.getD a 0).toNat [], 0 ≤ k ∧ k < g.own.length := fun k hk => by
    rw [backs_at g _ (by omega), List.mem_filter] at hk
    exact allN_mem.1 hk.1
  have hBl : ((backs g).getD (now.getD a 0).toNat []).length ≤ g.own.length := by
    rw [backs_eq g _ (by omega)]; exact backI_len _ _ _
  rw [hS] at hsucc hnxt
  simp only at hsucc hnxt
  generalize (backs g).getD (now.getD a 0).toNat [] = B at *
  refine run_loop (fun b : Nat => ⟨17, [27, 28, 49, 50, 51, 83, 84, 85, 92, 93, 94], [.any, .ref 0 0 0, .any, I g.own.length, .osl 1 0 1 0 g.own.length, .osl 2 0 1 0 g.own.length, intss (backs g), .any, .any, .any, .any, I (i + 1 : Nat), .osl 3 (layAt g i a b).2.2.length 1 0 (layAt g i a b).2.2.length, .any, .any, .any, .any],
    [(83, ints now), (84, I now.length), (85, I a), (92, ints B), (93, I B.length), (94, I b)], [.row 0 6 (ofL (bdL g)), .row 0 g.own.length (slF I 0 (layAt g i a b).1), .row 0 g.own.length (slF I 0 (layAt g i a b).2.1), .row (layAt g i a b).2.2.length (layAt g i a b).2.2.length (slF I 0 (layAt g i a b).2.2)]⟩) (fun b => b ≤ B.length) (fun b => B.length - b) 0 (by omega)
    (sub_mk rfl ?_ ?_ ?_) ?_
  · simp [subL, I, intss, sl1]
  · simp [subT, look, ints, sl1, I]
  · simp [bdL, ints, intss, sl1]
  intro b hb nextb
  have w3 := wj b (by omega)
  obtain ⟨hc1, hc2, hc3⟩ := hln' b
  refine vc_soundN 1000 ?_
  by_cases h3 : b < B.length
  rotate_left
  · simp (config := { maxSteps := 2000000 }) only [w1, w2, w3, h3, bdL, ↓wPre, wPost, wFast, Nat.zero_add, Nat.add_zero, Nat.zero_lt_succ, Nat.min_self, Nat.zero_min, Nat.min_zero, Nat.sub_zero, Nat.zero_mul, Int.le_refl, Nat.le_refl, Nat.lt_irrefl, Nat.mul_one, Bool.false_eq_true, Bool.true_eq_false, decide_true, decide_false, decide_eq_true_eq, decide_eq_false_iff_not, Bool.not_true, Bool.not_false, Bool.not_eq_true', Bool.not_eq_false', Bool.and_true, Bool.true_and, Bool.false_and, beq_self_eq_true, ite_true, ite_false, true_and, and_true, false_and, and_false, not_true_eq_false, not_false_eq_true, false_implies, true_implies, implies_true, eq_self, ne_eq, or_true, true_or, or_false, false_or, Bool.or_false, Bool.or_true, Bool.false_or, Bool.true_or, Int.natCast_nonneg, Int.ofNat_lt, Int.ofNat_le, Int.ofNat_inj, Int.ofNat_zero, ↓reduceIte, reduceIte, Nat.reducePow, Nat.reduceLT, Nat.reduceLeDiff, Nat.reduceEqDiff, Nat.reduceAdd, Nat.reduceMul, Nat.reduceSub, Nat.reduceBEq, reduceCtorEq, sl1, wFacts, gmA]
    have hb' : b = B.length := by omega
    subst hb'
    rw [hnxt h2]
    refine nexta (a + 1) _ (by omega) (by omega) (sub_mk rfl ?_ ?_ ?_)
    · simp [subL, I, intss, sl1]
    · simp [subT, look, ints, sl1, I]
    · simp [bdL, ints, intss, sl1]
  obtain ⟨k0, k1⟩ := hB _ (getD_mem (d := 0) h3)
  have hs := hsucc b h3
  clear hsucc hnxt hln' hln hl0 nexta next
  generalize hkk : B.getD b 0 = k at *
  have hkt : k.toNat < g.own.length := by omega
  generalize layAt g i a b = S at *
  obtain ⟨S1, S2, S3⟩ := S
  simp only at hc1 hc2 hc3 hs
  have hl1 : upd (slF I 0 S2) k.toNat (.int .i64 (IntKind.i64.wrap (S2.getD k.toNat 0 - 1))) = slF I 0 (S2.set k.toNat (IntKind.i64.wrap (S2.getD k.toNat 0 - 1))) := upd_I _ _ _ (by omega)
  have hr1 : upd (slF I 0 S1) k.toNat (.int .i64 (i + 1 : Nat)) = slF I 0 (S1.set k.toNat (i + 1 : Nat)) := upd_I _ _ _ (by omega)
  have hg1 : (S2.set k.toNat (IntKind.i64.wrap (S2.getD k.toNat 0 - 1))).getD k.toNat 0 = IntKind.i64.wrap (S2.getD k.toNat 0 - 1) := by rw [getD_set _ _ _ _ (by omega), if_pos rfl]
  unfold upd1 at hs
  simp only at hs
  have how : g.own.getD k.toNat 0 = ow g k.toNat := rfl
  have no : ¬ (S1.getD k.toNat 0 < 0 ∧ k ∉ g.bad ∧ (ow g k.toNat = 0 ∨ IntKind.i64.wrap (S2.getD k.toNat 0 - 1) = 0)) → layAt g i a (b + 1) = (S1, S2.set k.toNat (IntKind.i64.wrap (S2.getD k.toNat 0 - 1)), S3) := fun h => by rw [hs, if_neg h]
  have yes : S1.getD k.toNat 0 < 0 → k ∉ g.bad → (ow g k.toNat = 0 ∨ IntKind.i64.wrap (S2.getD k.toNat 0 - 1) = 0) → layAt g i a (b + 1) = (S1.set k.toNat (i + 1 : Nat), S2.set k.toNat (IntKind.i64.wrap (S2.getD k.toNat 0 - 1)), S3 ++ [k]) := fun h h' h'' => by rw [hs, if_pos ⟨h, h', h''⟩]
  clear hs
  by_cases hbad : k ∈ g.bad
  · have hgm : mapG g.bad k = some (.bool true) := if_pos hbad
    have hno := no fun h => h.2.1 hbad
    simp (config := { maxSteps := 2000000 }) only [w1, w2, w3, h3, hkk, hgm, cst0_bool, hl1, hr1, hg1, how, bdL, ↓wPre, wPost, wFast, Nat.zero_add, Nat.add_zero, Nat.zero_lt_succ, Nat.min_self, Nat.zero_min, Nat.min_zero, Nat.sub_zero, Nat.zero_mul, Int.le_refl, Nat.le_refl, Nat.lt_irrefl, Nat.mul_one, Bool.false_eq_true, Bool.true_eq_false, decide_true, decide_false, decide_eq_true_eq, decide_eq_false_iff_not, Bool.not_true, Bool.not_false, Bool.not_eq_true', Bool.not_eq_false', Bool.and_true, Bool.true_and, Bool.false_and, beq_self_eq_true, ite_true, ite_false, true_and, and_true, false_and, and_false, not_true_eq_false, not_false_eq_true, false_implies, true_implies, implies_true, eq_self, ne_eq, or_true, true_or, or_false, false_or, Bool.or_false, Bool.or_true, Bool.false_or, Bool.true_or, Int.natCast_nonneg, Int.ofNat_lt, Int.ofNat_le, Int.ofNat_inj, Int.ofNat_zero, ↓reduceIte, reduceIte, Nat.reducePow, Nat.reduceLT, Nat.reduceLeDiff, Nat.reduceEqDiff, Nat.reduceAdd, Nat.reduceMul, Nat.reduceSub, Nat.reduceBEq, reduceCtorEq, sl1, wFacts, gmA]
    have fin := nextb (b + 1)
    rw [hno] at fin
    refine ⟨⟨k0, k1⟩, hkt, ⟨k0, k1⟩, by omega, ⟨k0, k1⟩, hkt, fun h4 => fin _ (by omega) (by omega) (sub_mk rfl ?_ ?_ ?_), fun h4 => fin _ (by omega) (by omega) (sub_mk rfl ?_ ?_ ?_)⟩
    · simp [subL, I, intss, sl1]
    · simp [subT, look, ints, sl1, I]
    · simp [bdL, ints, intss, sl1]
    · simp [subL, I, intss, sl1]
    · simp [subT, look, ints, sl1, I]
    · simp [bdL, ints, intss, sl1]
  · have hgm : mapG g.bad k = none := if_neg hbad
    simp (config := { maxSteps := 2000000 }) only [w1, w2, w3, h3, hkk, hgm, cst0_bool, hl1, hr1, hg1, how, bdL, ↓wPre, wPost, wFast, Nat.zero_add, Nat.add_zero, Nat.zero_lt_succ, Nat.min_self, Nat.zero_min, Nat.min_zero, Nat.sub_zero, Nat.zero_mul, Int.le_refl, Nat.le_refl, Nat.lt_irrefl, Nat.mul_one, Bool.false_eq_true, Bool.true_eq_false, decide_true, decide_false, decide_eq_true_eq, decide_eq_false_iff_not, Bool.not_true, Bool.not_false, Bool.not_eq_true', Bool.not_eq_false', Bool.and_true, Bool.true_and, Bool.false_and, beq_self_eq_true, ite_true, ite_false, true_and, and_true, false_and, and_false, not_true_eq_false, not_false_eq_true, false_implies, true_implies, implies_true, eq_self, ne_eq, or_true, true_or, or_false, false_or, Bool.or_false, Bool.or_true, Bool.false_or, Bool.true_or, Int.natCast_nonneg, Int.ofNat_lt, Int.ofNat_le, Int.ofNat_inj, Int.ofNat_zero, ↓reduceIte, reduceIte, Nat.reducePow, Nat.reduceLT, Nat.reduceLeDiff, Nat.reduceEqDiff, Nat.reduceAdd, Nat.reduceMul, Nat.reduceSub, Nat.reduceBEq, reduceCtorEq, sl1, wFacts, gmA]
    have fin := nextb (b + 1)
    refine ⟨⟨k0, k1⟩, hkt, ⟨k0, k1⟩, by omega, ⟨k0, k1⟩, hkt, fun h4 => ⟨⟨k0, k1⟩, hkt, fun h5 => ⟨⟨k0, k1⟩, by omega, ⟨by omega, by omega⟩, ?_⟩, fun h5 => ⟨⟨k0, k1⟩, hkt, fun h6 => ⟨⟨k0, k1⟩, by omega, ⟨by omega, by omega⟩, ?_⟩, fun h6 => ?_⟩⟩, fun h4 => ?_⟩
    · rw [yes h4 hbad (.inl h5)] at fin
      refine fin _ (by omega) (by omega) (sub_mk rfl ?_ ?_ ?_)
      · simp [subL, I, intss, sl1]
      · simp [subT, look, ints, sl1, I]
      · simp [bdL, ints, intss, sl1]
    · rw [yes h4 hbad (.inr h6)] at fin
      refine fin _ (by omega) (by omega) (sub_mk rfl ?_ ?_ ?_)
      · simp [subL, I, intss, sl1]
      · simp [subT, look, ints, sl1, I]
      · simp [bdL, ints, intss, sl1]
    · rw [no fun h => h.2.2.elim h5 h6] at fin
      refine fin _ (by omega) (by omega) (sub_mk rfl ?_ ?_ ?_)
      · simp [subL, I, intss, sl1]
      · simp [subT, look, ints, sl1, I]
      · simp [bdL, ints, intss, sl1]
    · rw [no fun h => h4 h.1] at fin
      refine fin _ (by omega) (by omega) (sub_mk rfl ?_ ?_ ?_)
      · simp [subL, I, intss, sl1]
      · simp [subT, look, ints, sl1, I]
      · simp [bdL, ints, intss, sl1]
end
end Go.Ab.G
