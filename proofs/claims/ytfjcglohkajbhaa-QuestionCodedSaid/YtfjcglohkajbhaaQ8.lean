/- Contracts of functions of this chapter, for every argument that fits, and what they need. -/
import Derived.Test.YtfjcglohkajbhaaQ7
set_option linter.unusedSimpArgs false
set_option linter.unusedVariables false
namespace Go.Ab.Q
open Go Go.RowKit Go.Proofs
noncomputable section
set_option maxRecDepth 10000
set_option maxHeartbeats 1000000
set_option linter.unusedSimpArgs false
open Classical

theorem ret1E {P : Program} {fn : Func} {str hcs : List Nat} {r v : AV} {s : AS} {t : Nat} (hr : fn.results = #[.tmp t]) (h : s.get t = v) (hs : Settled r) (e : v = r) : RetOk (envP P fn str hcs r) s :=
  ret1 hr (sees_of hs (h.trans e))
theorem ret2E {P : Program} {fn : Func} {str hcs : List Nat} {a b x y : AV} {s : AS} {t u : Nat} (hr : fn.results = #[.tmp t, .tmp u]) (h1 : s.get t = x) (h2 : s.get u = y) (s1 : Settled a) (s2 : Settled b) (e1 : x = a) (e2 : y = b) :
    RetOk (envP P fn str hcs (.tup [a, b])) s := ret2 hr (sees_tup ⟨sees_of s1 (h1.trans e1), sees_of s2 (h2.trans e2), trivial⟩)
theorem ret3E {P : Program} {fn : Func} {str hcs : List Nat} {a b c x y z : AV} {s : AS} {t u v : Nat} (hr : fn.results = #[.tmp t, .tmp u, .tmp v]) (h1 : s.get t = x) (h2 : s.get u = y) (h3 : s.get v = z) (s1 : Settled a) (s2 : Settled b) (s3 : Settled c)
    (e1 : x = a) (e2 : y = b) (e3 : z = c) : RetOk (envP P fn str hcs (.tup [a, b, c])) s := ret3 hr (sees_tup ⟨sees_of s1 (h1.trans e1), sees_of s2 (h2.trans e2), sees_of s3 (h3.trans e3), trivial⟩)

theorem proper_size {W C : List Int} (h : properF W C = 0) : sizeOk W C ∧ worldsOk W C ∧ ¬ anyBad C := by
  unfold properF at h
  split at h
  · split at h
    · exact ⟨by assumption, by assumption⟩
    · cases h
  · cases h
theorem proper_cost {W C : List Int} (h : properF W C = 0) (h1 : W.length ≠ 1) : 0 < C.length := by
  obtain ⟨⟨a, b, c⟩, hw, hb⟩ := proper_size h
  rcases Nat.eq_zero_or_pos C.length with e | e
  · exfalso
    have h0 := hw 0 (by omega)
    have h1 := hw 1 (by omega)
    rw [worldOk, e] at h0 h1
    have : W.getD 1 0 = W.getD 0 0 := by omega
    refine h1.2.2 ?_
    rw [this, ← getD_take W 0 0 1 (by omega)]
    exact getD_mem (by simp; omega)
  · exact e

def nn (W : List Int) (k : Nat) : Nat := max (spl W k false).length (spl W k true).length
def nxt (W C : List Int) : Nat → Option (Nat × Nat)
  | 0 => none
  | k + 1 => match nxt W C k with
    | none => some (k, nn W k)
    | some (b, l) => if nn W k < l ∨ (nn W k = l ∧ C.getD k 0 < C.getD b 0) then some (k, nn W k) else some (b, l)
theorem side_length (W some : List Int) (k : Int) : (side W some k false).length + (side W some k true).length = some.length := by
  unfold side
  induction some with
  | nil => rfl
  | cons a l ih =>
    simp only [List.filter_cons, List.length_cons]
    cases tb (W.getD a.toNat 0) k <;> simp at ih ⊢ <;> omega
theorem nn_le (W : List Int) (k : Nat) : nn W k ≤ W.length := by
  unfold nn spl
  split
  · have := side_length W (allI W.length) k
    rw [allI_len] at this
    omega
  · simp
theorem nxt_spec (W C : List Int) : ∀ k, (k = 0 ∧ nxt W C k = none) ∨ ∃ b l, nxt W C k = some (b, l) ∧ b < k ∧ l ≤ W.length
  | 0 => .inl ⟨rfl, rfl⟩
  | k + 1 => by
    right
    have hn := nn_le W k
    rcases nxt_spec W C k with ⟨rfl, h⟩ | ⟨b, l, h, hb, hl⟩
    · exact ⟨0, nn W 0, by simp [nxt], by omega, by simpa using hn⟩
    · simp only [nxt, h]
      split
      · exact ⟨k, nn W k, rfl, by omega, hn⟩
      · exact ⟨b, l, rfl, by omega, hl⟩
def nb (d : Int) (o : Option (Nat × Nat)) : Int := match o with | none => d | some p => (p.1 : Int)
def nl (d : Int) (o : Option (Nat × Nat)) : Int := match o with | none => d | some p => (p.2 : Int)

theorem nb_spec (d d' : Int) (W C : List Int) (k : Nat) : (k = 0 ∧ nxt W C k = none ∧ nb d (nxt W C k) = d ∧ nl d' (nxt W C k) = d') ∨
    ∃ b l : Nat, nxt W C k = some (b, l) ∧ nb d (nxt W C k) = b ∧ nl d' (nxt W C k) = l ∧ b < k ∧ l ≤ W.length ∧ C.getD (nb d (nxt W C k)).toNat 0 = C.getD b 0 := by
  rcases nxt_spec W C k with ⟨h, hx⟩ | ⟨b, l, hx, hb, hl⟩
  · exact .inl ⟨h, hx, by rw [hx]; rfl, by rw [hx]; rfl⟩
  · exact .inr ⟨b, l, hx, by rw [hx]; rfl, by rw [hx]; rfl, hb, hl, by rw [hx]; rfl⟩
def nextF (W C : List Int) : List AV := if properF W C ≠ 0 then [I 0, I 0, I (properF W C)] else if W.length = 1 then [I 0, I 0, I 6] else [I (nb 0 (nxt W C C.length)), I (nl 0 (nxt W C C.length)), I 0]
theorem max_cast (a b : Nat) : (if (a : Int) < b then (b : Int) else a) = ((max a b : Nat) : Int) := by split <;> omega

theorem next_fn (W C : List Int) (hW : W.length < 1048576) (hC : C.length < 1048576) : Fn Try.prog 10 [ints W, ints C] (.tup (nextF W C)) := by
  refine Fn.intro (fn := Try.f10) Try.call10 Try.func10 rfl mixed 15 [24, 25, 26] [] [] (by kernel_rfl) (Nat.le_of_ble_eq_true rfl) (by simp [settled_ints, settled_I, settled_fn0, settled_intss, settled_bool, settled_tree, settled_nil]) (vc_soundN 1000 ?_); simp (config := { maxSteps := 2000000 }) only [AS.start, ↓wPre, wPost, List.getD_cons_succ, List.getD_cons_zero, List.set_cons_succ, List.set_cons_zero, List.map_cons, List.map_nil, List.all_cons, List.all_nil, List.length_cons, List.length_nil, List.cons_append, List.nil_append, List.append_nil, List.getElem?_cons_succ, List.getElem?_cons_zero, List.replicate_succ, List.replicate_zero, List.contains_cons, List.contains_nil, List.elem_cons, List.elem_nil, Nat.zero_add, Nat.add_zero, Nat.zero_lt_succ, Int.toNat_zero, Nat.min_self, Nat.zero_min, Nat.min_zero, Nat.sub_zero, Nat.zero_mul, Int.le_refl, Nat.le_refl, Option.getD_none, Option.getD_some, Int.toNat_one, Nat.lt_irrefl, Nat.mul_one, Bool.false_eq_true, Bool.true_eq_false, decide_true, decide_false, decide_eq_true_eq, decide_eq_false_iff_not, Bool.not_true, Bool.not_false, Bool.not_eq_true', Bool.not_eq_false', Bool.and_true, Bool.true_and, Bool.false_and, beq_self_eq_true, ite_true, ite_false, Option.map_some, Option.map_none, Option.isSome_some, true_and, and_true, false_and, and_false, not_true_eq_false, not_false_eq_true, false_implies, true_implies, implies_true, eq_self, ne_eq, or_true, true_or, or_false, false_or, Bool.or_false, Bool.or_true, Bool.false_or, Bool.true_or, Int.toNat_natCast, Int.natCast_nonneg, Int.ofNat_lt, Int.ofNat_le, Int.ofNat_inj, Int.ofNat_zero, ↓reduceIte, reduceIte, replT, filtT, countL, cls, look, aload, astore, aindex, afieldA, afield, aidx, apart, aslice, ibound, acap, azapp, abuildS, abuild, aFill, setL, zrep, asrc, aappend, aconv, alen, amake, amkmap, alookup, aupdate, aalloc, abox, newO, place, rd, Nat.reducePow, AV.isPtr, Nat.reduceLT, Nat.reduceLeDiff, Nat.reduceEqDiff, Nat.reduceAdd, Nat.reduceMul, Nat.reduceSub, Nat.reduceBEq, updL, cellsFrom, reduceCtorEq, ints, bools, intss, sl1, wFacts]
  refine call_fn (proper_fn W C hW hC) rfl ?_
  simp only [↓wPre, wPost, List.getD_cons_succ, List.getD_cons_zero, List.set_cons_succ, List.set_cons_zero, List.map_cons, List.map_nil, List.all_cons, List.all_nil, List.length_cons, List.length_nil, List.cons_append, List.nil_append, List.append_nil, List.getElem?_cons_succ, List.getElem?_cons_zero, List.replicate_succ, List.replicate_zero, List.contains_cons, List.contains_nil, List.elem_cons, List.elem_nil, Nat.zero_add, Nat.add_zero, Nat.zero_lt_succ, Int.toNat_zero, Nat.min_self, Nat.zero_min, Nat.min_zero, Nat.sub_zero, Nat.zero_mul, Int.le_refl, Nat.le_refl, Option.getD_none, Option.getD_some, Int.toNat_one, Nat.lt_irrefl, Nat.mul_one, Bool.false_eq_true, Bool.true_eq_false, decide_true, decide_false, decide_eq_true_eq, decide_eq_false_iff_not, Bool.not_true, Bool.not_false, Bool.not_eq_true', Bool.not_eq_false', Bool.and_true, Bool.true_and, Bool.false_and, beq_self_eq_true, ite_true, ite_false, Option.map_some, Option.map_none, Option.isSome_some, true_and, and_true, false_and, and_false, not_true_eq_false, not_false_eq_true, false_implies, true_implies, implies_true, eq_self, ne_eq, or_true, true_or, or_false, false_or, Bool.or_false, Bool.or_true, Bool.false_or, Bool.true_or, Int.toNat_natCast, Int.natCast_nonneg, Int.ofNat_lt, Int.ofNat_le, Int.ofNat_inj, Int.ofNat_zero, ↓reduceIte, reduceIte, replT, filtT, countL, cls, look, aload, astore, aindex, afieldA, afield, aidx, apart, aslice, ibound, acap, azapp, abuildS, abuild, aFill, setL, zrep, asrc, aappend, aconv, alen, amake, amkmap, alookup, aupdate, aalloc, abox, newO, place, rd, Nat.reducePow, AV.isPtr, Nat.reduceLT, Nat.reduceLeDiff, Nat.reduceEqDiff, Nat.reduceAdd, Nat.reduceMul, Nat.reduceSub, Nat.reduceBEq, updL, cellsFrom, reduceCtorEq, ints, bools, intss, sl1, wFacts]
  refine ⟨fun h => ?_, fun hp => ⟨fun h => ?_, fun h1 => ?_⟩⟩
  · rw [show nextF W C = [I 0, I 0, I (properF W C)] from if_pos h]
    exact ret3E rfl rfl rfl rfl (settled_I _) (settled_I _) (settled_I _) rfl rfl rfl
  · rw [show nextF W C = [I 0, I 0, I 6] from (if_neg (by simpa using hp)).trans (if_pos (by omega))]
    exact ret3E rfl rfl rfl rfl (settled_I _) (settled_I _) (settled_I _) rfl rfl rfl
  rw [show nextF W C = [I (nb 0 (nxt W C C.length)), I (nl 0 (nxt W C C.length)), I 0] from (if_neg (by simpa using hp)).trans (if_neg (by omega))]
  obtain ⟨hsz, hwo, hcb⟩ := proper_size hp
  have hpc := proper_cost hp (by omega)
  refine run_loop (fun j : Nat => ⟨15, [24, 25, 26], [ints W, ints C, .any, .any, .any, .any, .any, .any, I (nb (-1) (nxt W C j)), I (nl 0 (nxt W C j)), .any, .any, .any, .any, .any], [(24, ints C), (25, I C.length), (26, I j)], []⟩) (fun j => j ≤ C.length) (fun j => C.length - j) 0 (by omega)
    (sub_mk rfl (by simp [subL, ints, sl1, I, nxt, nb, nl]) (by simp [subT, look, ints, sl1, I]) rfl) ?_
  intro j hj next
  have w1 := wj j (by omega)
  refine vc_soundN 1000 ?_
  simp only [w1, ↓wPre, wPost, List.getD_cons_succ, List.getD_cons_zero, List.set_cons_succ, List.set_cons_zero, List.map_cons, List.map_nil, List.all_cons, List.all_nil, List.length_cons, List.length_nil, List.cons_append, List.nil_append, List.append_nil, List.getElem?_cons_succ, List.getElem?_cons_zero, List.replicate_succ, List.replicate_zero, List.contains_cons, List.contains_nil, List.elem_cons, List.elem_nil, Nat.zero_add, Nat.add_zero, Nat.zero_lt_succ, Int.toNat_zero, Nat.min_self, Nat.zero_min, Nat.min_zero, Nat.sub_zero, Nat.zero_mul, Int.le_refl, Nat.le_refl, Option.getD_none, Option.getD_some, Int.toNat_one, Nat.lt_irrefl, Nat.mul_one, Bool.false_eq_true, Bool.true_eq_false, decide_true, decide_false, decide_eq_true_eq, decide_eq_false_iff_not, Bool.not_true, Bool.not_false, Bool.not_eq_true', Bool.not_eq_false', Bool.and_true, Bool.true_and, Bool.false_and, beq_self_eq_true, ite_true, ite_false, Option.map_some, Option.map_none, Option.isSome_some, true_and, and_true, false_and, and_false, not_true_eq_false, not_false_eq_true, false_implies, true_implies, implies_true, eq_self, ne_eq, or_true, true_or, or_false, false_or, Bool.or_false, Bool.or_true, Bool.false_or, Bool.true_or, Int.toNat_natCast, Int.natCast_nonneg, Int.ofNat_lt, Int.ofNat_le, Int.ofNat_inj, Int.ofNat_zero, ↓reduceIte, reduceIte, replT, filtT, countL, cls, look, aload, astore, aindex, afieldA, afield, aidx, apart, aslice, ibound, acap, azapp, abuildS, abuild, aFill, setL, zrep, asrc, aappend, aconv, alen, amake, amkmap, alookup, aupdate, aalloc, abox, newO, place, rd, Nat.reducePow, AV.isPtr, Nat.reduceLT, Nat.reduceLeDiff, Nat.reduceEqDiff, Nat.reduceAdd, Nat.reduceMul, Nat.reduceSub, Nat.reduceBEq, updL, cellsFrom, reduceCtorEq, ints, bools, intss, sl1, wFacts]
  refine ⟨fun h => ⟨h, h, call_fn (splits_fn W j hW) rfl ?_⟩, fun h => ?_⟩
  · have w3 : (if (spl W j false).length < (spl W j true).length then ((spl W j true).length : Int) else ((spl W j false).length : Int)) = ((nn W j : Nat) : Int) := by unfold nn; split <;> omega
    have leaf : ∀ b l (_ : nxt W C (j + 1) = some (b, l)) (x y : Int) (_ : x = b) (_ : y = l) (u v w z: AV), Sub 0 ⟨15, [24, 25, 26], [ints W, ints C, .any, .any, .any, .any, .any, .any, I x, I y, u, v, w, z, I (nn W j)], [(26, I ((j + 1 : Nat) : Int)), (64, I ((j + 1 : Nat) : Int)), (24, ints C), (25, I C.length), (26, I j)], []⟩
        ⟨15, [24, 25, 26], [ints W, ints C, .any, .any, .any, .any, .any, .any, I (nb (-1) (nxt W C (j + 1))), I (nl 0 (nxt W C (j + 1))), .any, .any, .any, .any, .any], [(24, ints C), (25, I C.length), (26, I ((j + 1 : Nat) : Int))], []⟩ := by
      rintro b l hx x y rfl rfl u v w z
      exact sub_mk rfl (by simp [subL, hx, nb, nl]) (by simp [subT, look]) rfl
    have zero : ∀ (_ : nxt W C j = none), nxt W C (j + 1) = some (j, nn W j) := fun hx => by simp only [nxt, hx]
    have take : ∀ b l (_ : nxt W C j = some (b, l)), nn W j < l ∨ (nn W j = l ∧ C.getD j 0 < C.getD b 0) → nxt W C (j + 1) = some (j, nn W j) := fun b l hx h => by simp only [nxt, hx]; exact if_pos h
    have keep : ∀ b l (_ : nxt W C j = some (b, l)), ¬ (nn W j < l ∨ (nn W j = l ∧ C.getD j 0 < C.getD b 0)) → nxt W C (j + 1) = some (b, l) := fun b l hx h => by simp only [nxt, hx]; exact if_neg h
    simp only [w1, w3, ↓wPre, wPost, List.getD_cons_succ, List.getD_cons_zero, List.set_cons_succ, List.set_cons_zero, List.map_cons, List.map_nil, List.all_cons, List.all_nil, List.length_cons, List.length_nil, List.cons_append, List.nil_append, List.append_nil, List.getElem?_cons_succ, List.getElem?_cons_zero, List.replicate_succ, List.replicate_zero, List.contains_cons, List.contains_nil, List.elem_cons, List.elem_nil, Nat.zero_add, Nat.add_zero, Nat.zero_lt_succ, Int.toNat_zero, Nat.min_self, Nat.zero_min, Nat.min_zero, Nat.sub_zero, Nat.zero_mul, Int.le_refl, Nat.le_refl, Option.getD_none, Option.getD_some, Int.toNat_one, Nat.lt_irrefl, Nat.mul_one, Bool.false_eq_true, Bool.true_eq_false, decide_true, decide_false, decide_eq_true_eq, decide_eq_false_iff_not, Bool.not_true, Bool.not_false, Bool.not_eq_true', Bool.not_eq_false', Bool.and_true, Bool.true_and, Bool.false_and, beq_self_eq_true, ite_true, ite_false, Option.map_some, Option.map_none, Option.isSome_some, true_and, and_true, false_and, and_false, not_true_eq_false, not_false_eq_true, false_implies, true_implies, implies_true, eq_self, ne_eq, or_true, true_or, or_false, false_or, Bool.or_false, Bool.or_true, Bool.false_or, Bool.true_or, Int.toNat_natCast, Int.natCast_nonneg, Int.ofNat_lt, Int.ofNat_le, Int.ofNat_inj, Int.ofNat_zero, ↓reduceIte, reduceIte, replT, filtT, countL, cls, look, aload, astore, aindex, afieldA, afield, aidx, apart, aslice, ibound, acap, azapp, abuildS, abuild, aFill, setL, zrep, asrc, aappend, aconv, alen, amake, amkmap, alookup, aupdate, aalloc, abox, newO, place, rd, Nat.reducePow, AV.isPtr, Nat.reduceLT, Nat.reduceLeDiff, Nat.reduceEqDiff, Nat.reduceAdd, Nat.reduceMul, Nat.reduceSub, Nat.reduceBEq, updL, cellsFrom, reduceCtorEq, ints, bools, intss, sl1, wFacts]
    refine ⟨fun hneg => ?_, fun hn => ⟨fun hlt => ?_, fun hge => ⟨fun heq => ⟨?_, ?_, fun hc => ?_, fun hc => ?_⟩, fun hne => ?_⟩⟩⟩
    all_goals rcases nb_spec (-1) 0 W C j with ⟨hj0, hx, e1, e2⟩ | ⟨b, l, hx, e1, e2, hb, hl, e3⟩
    all_goals try omega
    · exact next (j + 1) _ (by omega) (by omega) (leaf j (nn W j) (zero hx) _ _ rfl rfl _ _ _ _)
    · exact next (j + 1) _ (by omega) (by omega) (leaf j (nn W j) (take b l hx (by omega)) _ _ rfl rfl _ _ _ _)
    · rw [e3] at hc
      exact next (j + 1) _ (by omega) (by omega) (leaf j (nn W j) (take b l hx (by omega)) _ _ rfl rfl _ _ _ _)
    · rw [e3] at hc
      exact next (j + 1) _ (by omega) (by omega) (leaf b l (keep b l hx (by omega)) _ _ e1 e2 _ _ _ _)
    · exact next (j + 1) _ (by omega) (by omega) (leaf b l (keep b l hx (by omega)) _ _ e1 e2 _ _ _ _)
  · obtain rfl : j = C.length := by omega
    rcases nxt_spec W C C.length with ⟨h0, _⟩ | ⟨b, l, hx, hb, hl⟩
    · omega
    · exact ret3E rfl rfl rfl rfl (settled_I _) (settled_I _) (settled_I _) (by rw [hx]; rfl) (by rw [hx]; rfl) rfl

theorem rnext_fn (W C : List Int) (hW : W.length < 1048576) (hC : C.length < 1048576) : Fn Try.prog 11 [ints W, ints C] (.tup (nextF W C)) := by
  refine Fn.intro (fn := Try.f11) Try.call11 Try.func11 rfl mixed 14 [] [] [] (by kernel_rfl) (Nat.le_of_ble_eq_true rfl) (by simp [settled_ints, settled_I, settled_fn0, settled_intss, settled_bool, settled_tree, settled_nil]) (vc_soundN 1000 ?_); simp (config := { maxSteps := 2000000 }) only [AS.start, ↓wPre, wPost, List.getD_cons_succ, List.getD_cons_zero, List.set_cons_succ, List.set_cons_zero, List.map_cons, List.map_nil, List.all_cons, List.all_nil, List.length_cons, List.length_nil, List.cons_append, List.nil_append, List.append_nil, List.getElem?_cons_succ, List.getElem?_cons_zero, List.replicate_succ, List.replicate_zero, List.contains_cons, List.contains_nil, List.elem_cons, List.elem_nil, Nat.zero_add, Nat.add_zero, Nat.zero_lt_succ, Int.toNat_zero, Nat.min_self, Nat.zero_min, Nat.min_zero, Nat.sub_zero, Nat.zero_mul, Int.le_refl, Nat.le_refl, Option.getD_none, Option.getD_some, Int.toNat_one, Nat.lt_irrefl, Nat.mul_one, Bool.false_eq_true, Bool.true_eq_false, decide_true, decide_false, decide_eq_true_eq, decide_eq_false_iff_not, Bool.not_true, Bool.not_false, Bool.not_eq_true', Bool.not_eq_false', Bool.and_true, Bool.true_and, Bool.false_and, beq_self_eq_true, ite_true, ite_false, Option.map_some, Option.map_none, Option.isSome_some, true_and, and_true, false_and, and_false, not_true_eq_false, not_false_eq_true, false_implies, true_implies, implies_true, eq_self, ne_eq, or_true, true_or, or_false, false_or, Bool.or_false, Bool.or_true, Bool.false_or, Bool.true_or, Int.toNat_natCast, Int.natCast_nonneg, Int.ofNat_lt, Int.ofNat_le, Int.ofNat_inj, Int.ofNat_zero, ↓reduceIte, reduceIte, replT, filtT, countL, cls, look, aload, astore, aindex, afieldA, afield, aidx, apart, aslice, ibound, acap, azapp, abuildS, abuild, aFill, setL, zrep, asrc, aappend, aconv, alen, amake, amkmap, alookup, aupdate, aalloc, abox, newO, place, rd, Nat.reducePow, AV.isPtr, Nat.reduceLT, Nat.reduceLeDiff, Nat.reduceEqDiff, Nat.reduceAdd, Nat.reduceMul, Nat.reduceSub, Nat.reduceBEq, updL, cellsFrom, reduceCtorEq, ints, bools, intss, sl1, wFacts]
  refine call_fn (rproper_fn W C hW hC) rfl ?_
  simp only [↓wPre, wPost, List.getD_cons_succ, List.getD_cons_zero, List.set_cons_succ, List.set_cons_zero, List.map_cons, List.map_nil, List.all_cons, List.all_nil, List.length_cons, List.length_nil, List.cons_append, List.nil_append, List.append_nil, List.getElem?_cons_succ, List.getElem?_cons_zero, List.replicate_succ, List.replicate_zero, List.contains_cons, List.contains_nil, List.elem_cons, List.elem_nil, Nat.zero_add, Nat.add_zero, Nat.zero_lt_succ, Int.toNat_zero, Nat.min_self, Nat.zero_min, Nat.min_zero, Nat.sub_zero, Nat.zero_mul, Int.le_refl, Nat.le_refl, Option.getD_none, Option.getD_some, Int.toNat_one, Nat.lt_irrefl, Nat.mul_one, Bool.false_eq_true, Bool.true_eq_false, decide_true, decide_false, decide_eq_true_eq, decide_eq_false_iff_not, Bool.not_true, Bool.not_false, Bool.not_eq_true', Bool.not_eq_false', Bool.and_true, Bool.true_and, Bool.false_and, beq_self_eq_true, ite_true, ite_false, Option.map_some, Option.map_none, Option.isSome_some, true_and, and_true, false_and, and_false, not_true_eq_false, not_false_eq_true, false_implies, true_implies, implies_true, eq_self, ne_eq, or_true, true_or, or_false, false_or, Bool.or_false, Bool.or_true, Bool.false_or, Bool.true_or, Int.toNat_natCast, Int.natCast_nonneg, Int.ofNat_lt, Int.ofNat_le, Int.ofNat_inj, Int.ofNat_zero, ↓reduceIte, reduceIte, replT, filtT, countL, cls, look, aload, astore, aindex, afieldA, afield, aidx, apart, aslice, ibound, acap, azapp, abuildS, abuild, aFill, setL, zrep, asrc, aappend, aconv, alen, amake, amkmap, alookup, aupdate, aalloc, abox, newO, place, rd, Nat.reducePow, AV.isPtr, Nat.reduceLT, Nat.reduceLeDiff, Nat.reduceEqDiff, Nat.reduceAdd, Nat.reduceMul, Nat.reduceSub, Nat.reduceBEq, updL, cellsFrom, reduceCtorEq, ints, bools, intss, sl1, wFacts]
  refine ⟨fun h => ?_, fun hp => ⟨fun h => ?_, fun h1 => ?_⟩⟩
  · rw [show nextF W C = [I 0, I 0, I (properF W C)] from if_pos h]
    exact ret3E rfl rfl rfl rfl (settled_I _) (settled_I _) (settled_I _) rfl rfl rfl
  · rw [show nextF W C = [I 0, I 0, I 6] from (if_neg (by simpa using hp)).trans (if_pos (by omega))]
    exact ret3E rfl rfl rfl rfl (settled_I _) (settled_I _) (settled_I _) rfl rfl rfl
  rw [show nextF W C = [I (nb 0 (nxt W C C.length)), I (nl 0 (nxt W C C.length)), I 0] from (if_neg (by simpa using hp)).trans (if_neg (by omega))]
  obtain ⟨hsz, hwo, hcb⟩ := proper_size hp
  have hpc := proper_cost hp (by omega)
  refine run_loop (fun j : Nat => ⟨14, [], [ints W, ints C, .any, .any, .any, .any, .any, .any, I (nb 0 (nxt W C j)), I (nl 9 (nxt W C j)), I j, .any, .any, .any], [], []⟩) (fun j => j ≤ C.length) (fun j => C.length - j) 0 (by omega)
    (sub_mk rfl (by simp [subL, ints, sl1, I, nxt, nb, nl]) (by simp [subT, look, ints, sl1, I]) rfl) ?_
  intro j hj next
  have w1 := wj j (by omega)
  refine vc_soundN 1000 ?_
  simp only [w1, ↓wPre, wPost, List.getD_cons_succ, List.getD_cons_zero, List.set_cons_succ, List.set_cons_zero, List.map_cons, List.map_nil, List.all_cons, List.all_nil, List.length_cons, List.length_nil, List.cons_append, List.nil_append, List.append_nil, List.getElem?_cons_succ, List.getElem?_cons_zero, List.replicate_succ, List.replicate_zero, List.contains_cons, List.contains_nil, List.elem_cons, List.elem_nil, Nat.zero_add, Nat.add_zero, Nat.zero_lt_succ, Int.toNat_zero, Nat.min_self, Nat.zero_min, Nat.min_zero, Nat.sub_zero, Nat.zero_mul, Int.le_refl, Nat.le_refl, Option.getD_none, Option.getD_some, Int.toNat_one, Nat.lt_irrefl, Nat.mul_one, Bool.false_eq_true, Bool.true_eq_false, decide_true, decide_false, decide_eq_true_eq, decide_eq_false_iff_not, Bool.not_true, Bool.not_false, Bool.not_eq_true', Bool.not_eq_false', Bool.and_true, Bool.true_and, Bool.false_and, beq_self_eq_true, ite_true, ite_false, Option.map_some, Option.map_none, Option.isSome_some, true_and, and_true, false_and, and_false, not_true_eq_false, not_false_eq_true, false_implies, true_implies, implies_true, eq_self, ne_eq, or_true, true_or, or_false, false_or, Bool.or_false, Bool.or_true, Bool.false_or, Bool.true_or, Int.toNat_natCast, Int.natCast_nonneg, Int.ofNat_lt, Int.ofNat_le, Int.ofNat_inj, Int.ofNat_zero, ↓reduceIte, reduceIte, replT, filtT, countL, cls, look, aload, astore, aindex, afieldA, afield, aidx, apart, aslice, ibound, acap, azapp, abuildS, abuild, aFill, setL, zrep, asrc, aappend, aconv, alen, amake, amkmap, alookup, aupdate, aalloc, abox, newO, place, rd, Nat.reducePow, AV.isPtr, Nat.reduceLT, Nat.reduceLeDiff, Nat.reduceEqDiff, Nat.reduceAdd, Nat.reduceMul, Nat.reduceSub, Nat.reduceBEq, updL, cellsFrom, reduceCtorEq, ints, bools, intss, sl1, wFacts]
  refine ⟨fun h => ?_, fun h => ?_⟩
  · refine call_fn (rsplits_fn W j hW) rfl ?_
    have w3 : (if (spl W j false).length < (spl W j true).length then ((spl W j true).length : Int) else ((spl W j false).length : Int)) = ((nn W j : Nat) : Int) := by unfold nn; split <;> omega
    have leaf : ∀ b l (_ : nxt W C (j + 1) = some (b, l)) (x y : Int) (_ : x = b) (_ : y = l) (u v w : AV) (tm : List (Nat × AV)), Sub 0 ⟨14, [], [ints W, ints C, .any, .any, .any, .any, .any, .any, I x, I y, I ((j + 1 : Nat) : Int), u, v, w], tm, []⟩
        ⟨14, [], [ints W, ints C, .any, .any, .any, .any, .any, .any, I (nb 0 (nxt W C (j + 1))), I (nl 9 (nxt W C (j + 1))), I ((j + 1 : Nat) : Int), .any, .any, .any], [], []⟩ := by
      rintro b l hx x y rfl rfl u v w tm
      exact sub_mk rfl (by simp [subL, hx, nb, nl]) (by simp [subT, look]) rfl
    have zero : ∀ (_ : nxt W C j = none), nxt W C (j + 1) = some (j, nn W j) := fun hx => by simp only [nxt, hx]
    have take : ∀ b l (_ : nxt W C j = some (b, l)), nn W j < l ∨ (nn W j = l ∧ C.getD j 0 < C.getD b 0) → nxt W C (j + 1) = some (j, nn W j) := fun b l hx h => by simp only [nxt, hx]; exact if_pos h
    have keep : ∀ b l (_ : nxt W C j = some (b, l)), ¬ (nn W j < l ∨ (nn W j = l ∧ C.getD j 0 < C.getD b 0)) → nxt W C (j + 1) = some (b, l) := fun b l hx h => by simp only [nxt, hx]; exact if_neg h
    have hnn := nn_le W j
    have hsz2 : W.length ≤ 8 := hsz.2.1
    simp only [w1, w3, ↓wPre, wPost, List.getD_cons_succ, List.getD_cons_zero, List.set_cons_succ, List.set_cons_zero, List.map_cons, List.map_nil, List.all_cons, List.all_nil, List.length_cons, List.length_nil, List.cons_append, List.nil_append, List.append_nil, List.getElem?_cons_succ, List.getElem?_cons_zero, List.replicate_succ, List.replicate_zero, List.contains_cons, List.contains_nil, List.elem_cons, List.elem_nil, Nat.zero_add, Nat.add_zero, Nat.zero_lt_succ, Int.toNat_zero, Nat.min_self, Nat.zero_min, Nat.min_zero, Nat.sub_zero, Nat.zero_mul, Int.le_refl, Nat.le_refl, Option.getD_none, Option.getD_some, Int.toNat_one, Nat.lt_irrefl, Nat.mul_one, Bool.false_eq_true, Bool.true_eq_false, decide_true, decide_false, decide_eq_true_eq, decide_eq_false_iff_not, Bool.not_true, Bool.not_false, Bool.not_eq_true', Bool.not_eq_false', Bool.and_true, Bool.true_and, Bool.false_and, beq_self_eq_true, ite_true, ite_false, Option.map_some, Option.map_none, Option.isSome_some, true_and, and_true, false_and, and_false, not_true_eq_false, not_false_eq_true, false_implies, true_implies, implies_true, eq_self, ne_eq, or_true, true_or, or_false, false_or, Bool.or_false, Bool.or_true, Bool.false_or, Bool.true_or, Int.toNat_natCast, Int.natCast_nonneg, Int.ofNat_lt, Int.ofNat_le, Int.ofNat_inj, Int.ofNat_zero, ↓reduceIte, reduceIte, replT, filtT, countL, cls, look, aload, astore, aindex, afieldA, afield, aidx, apart, aslice, ibound, acap, azapp, abuildS, abuild, aFill, setL, zrep, asrc, aappend, aconv, alen, amake, amkmap, alookup, aupdate, aalloc, abox, newO, place, rd, Nat.reducePow, AV.isPtr, Nat.reduceLT, Nat.reduceLeDiff, Nat.reduceEqDiff, Nat.reduceAdd, Nat.reduceMul, Nat.reduceSub, Nat.reduceBEq, updL, cellsFrom, reduceCtorEq, ints, bools, intss, sl1, wFacts]
    refine ⟨fun hlt => ?_, fun hge => ⟨fun heq => ⟨h, h, ?_, ?_, fun hc => ?_, fun hc => ?_⟩, fun hne => ?_⟩⟩
    all_goals rcases nb_spec 0 9 W C j with ⟨hj0, hx, e1, e2⟩ | ⟨b, l, hx, e1, e2, hb, hl, e3⟩
    all_goals try omega
    · exact next (j + 1) _ (by omega) (by omega) (leaf j (nn W j) (zero hx) _ _ rfl rfl _ _ _ _)
    · exact next (j + 1) _ (by omega) (by omega) (leaf j (nn W j) (take b l hx (by omega)) _ _ rfl rfl _ _ _ _)
    · rw [e3] at hc
      exact next (j + 1) _ (by omega) (by omega) (leaf j (nn W j) (take b l hx (by omega)) _ _ rfl rfl _ _ _ _)
    · rw [e3] at hc
      exact next (j + 1) _ (by omega) (by omega) (leaf b l (keep b l hx (by omega)) _ _ e1 e2 _ _ _ _)
    · exact next (j + 1) _ (by omega) (by omega) (leaf b l (keep b l hx (by omega)) _ _ e1 e2 _ _ _ _)
  · obtain rfl : j = C.length := by omega
    rcases nxt_spec W C C.length with ⟨h0, _⟩ | ⟨b, l, hx, hb, hl⟩
    · omega
    · exact ret3E rfl rfl rfl rfl (settled_I _) (settled_I _) (settled_I _) (by rw [hx]; rfl) (by rw [hx]; rfl) rfl
end
end Go.Ab.Q
