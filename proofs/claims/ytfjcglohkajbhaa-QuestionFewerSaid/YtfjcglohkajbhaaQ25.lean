/- Contracts of functions of this chapter, for every argument that fits, and what they need. -/
import Derived.Test.YtfjcglohkajbhaaQ24
set_option linter.unusedSimpArgs false
set_option linter.unusedVariables false
namespace Go.Ab.Q
open Go Go.RowKit Go.Proofs
noncomputable section
set_option maxRecDepth 10000
set_option maxHeartbeats 1000000
set_option linter.unusedSimpArgs false
open Classical

/-! ### Codes of trees are read again -/
theorem rd1_app (W C : List Int) (hC : C.length ≤ 8) : ∀ (t : Tr) (s : List Int) (c : Int), flw W C s t = some c → (∀ i ∈ s, 0 ≤ i ∧ i < 8) → ∀ rest : List Int, rd1 (codeT t ++ rest) = (t, rest, true) := by
  intro t
  induction t with
  | nil => intro s c h; simp [flw] at h
  | node a n y w ihn ihy =>
    intro s c h hs rest
    rw [flw] at h
    split at h
    · cases h
    rename_i h0
    split at h
    · rename_i ha
      split at h
      · rename_i hx
        obtain ⟨rfl, rfl, h1, h2⟩ := hx
        have hb := hs _ (getD_mem (l := s) (d := 0) (j := 0) (by omega))
        rw [h2] at hb
        have e : codeT (.node a .nil .nil w) = [-1 - w] := by
          simp only [codeT]; rw [if_pos ha, IntKind.wrap_i64]; congr 1; omega
        rw [e]
        show rd1 ((-1 - w) :: rest) = _
        rw [rd1_cons, if_neg (by omega), if_pos (by omega), ha]
        congr 1
        congr 1
        omega
      · cases h
    · rename_i ha
      split at h
      · cases h
      rename_i hb
      split at h
      · rename_i x z e1 e2
        have r1 := ihn _ _ e1 (fun i hi => hs i (side_mem hi)) (codeT y ++ rest)
        have r2 := ihy _ _ e2 (fun i hi => hs i (side_mem hi)) rest
        have e : codeT (.node a n y w) ++ rest = a :: (codeT n ++ (codeT y ++ rest)) := by
          simp only [codeT]; rw [if_neg ha]; simp
        rw [e, rd1_cons, if_neg (by omega), if_neg (by omega), r1]
        simp only
        rw [if_neg (by simp), r2]
        simp only
        rw [show w = -1 by omega]
      · cases h
theorem rd1_code {W C : List Int} (hC : C.length ≤ 8) {t : Tr} {s : List Int} {c : Int} (h : flw W C s t = some c) (hs : ∀ i ∈ s, 0 ≤ i ∧ i < 8) : rd1 (codeT t) = (t, [], true) := by
  have := rd1_app W C hC t s c h hs []
  rwa [List.append_nil] at this
theorem code_in {W C : List Int} (hC : C.length ≤ 8) : ∀ (t : Tr) (s : List Int) (c : Int), flw W C s t = some c → (∀ i ∈ s, 0 ≤ i ∧ i < 8) → ∀ x ∈ codeT t, -8 ≤ x ∧ x < 8 := by
  intro t
  induction t with
  | nil => intro s c h; simp [flw] at h
  | node a n y w ihn ihy =>
    intro s c h hs x hx
    rw [flw] at h
    split at h
    · cases h
    rename_i h0
    split at h
    · rename_i ha
      split at h
      · rename_i hq
        obtain ⟨rfl, rfl, h1, h2⟩ := hq
        have hb := hs _ (getD_mem (l := s) (d := 0) (j := 0) (by omega))
        rw [h2] at hb
        simp only [codeT] at hx
        rw [if_pos ha, IntKind.wrap_i64] at hx
        have := List.mem_singleton.1 hx
        omega
      · cases h
    · rename_i ha
      split at h
      · cases h
      rename_i hb
      split at h
      · rename_i x' z e1 e2
        simp only [codeT] at hx
        rw [if_neg ha] at hx
        simp only [List.flatten_cons, List.flatten_nil, List.append_nil, List.mem_append, List.mem_singleton] at hx
        rcases hx with hx | hx | hx
        · omega
        · exact ihn _ _ e1 (fun i hi => hs i (side_mem hi)) x hx
        · exact ihy _ _ e2 (fun i hi => hs i (side_mem hi)) x hx
      · cases h

/-! ### Other trees -/
theorem other_fn (W C l : List Int) (hW : W.length ≤ 8) (hC : C.length ≤ 8) (hl : all64 l) : ∀ (n : Nat) (s : List Int) (a : Int), s.length = n → 0 < n → n ≤ 8 → Apart W C s → (∀ i ∈ s, 0 ≤ i ∧ i < W.length) → 0 ≤ a → a + 2 * n < 1000000 →
    ∃ (t : Tr) (c : Int), Fn Try.prog 19 [ints W, ints C, ints s, ints l, I a] (ints (codeT t)) ∧ flw W C s t = some c ∧ 0 < (codeT t).length ∧ (codeT t).length ≤ 2 * n - 1 := by
  intro n
  induction n using Nat.strongRecOn with
  | _ n ih =>
    intro s a hs h0 h8 hap hin ha0 ha1
    by_cases h1 : s.length = 1
    · refine ⟨.node (-1) .nil .nil (s.getD 0 0), 0, ?_, ?_, by simp [codeT], by simp [codeT]; omega⟩
      · refine Fn.intro (fn := Try.f19) Try.call19 Try.func19 rfl mixed 16 [] [] [] (by kernel_rfl) (Nat.le_of_ble_eq_true rfl) (by simp [settled_ints, settled_I, settled_fn0, settled_intss, settled_bool, settled_tree, settled_nil]) (vc_soundN 1000 ?_); simp (config := { maxSteps := 2000000 }) only [AS.start, ↓wPre, wPost, List.getD_cons_succ, List.getD_cons_zero, List.set_cons_succ, List.set_cons_zero, List.map_cons, List.map_nil, List.all_cons, List.all_nil, List.length_cons, List.length_nil, List.cons_append, List.nil_append, List.append_nil, List.getElem?_cons_succ, List.getElem?_cons_zero, List.replicate_succ, List.replicate_zero, List.contains_cons, List.contains_nil, List.elem_cons, List.elem_nil, Nat.zero_add, Nat.add_zero, Nat.zero_lt_succ, Int.toNat_zero, Nat.min_self, Nat.zero_min, Nat.min_zero, Nat.sub_zero, Nat.zero_mul, Int.le_refl, Nat.le_refl, Option.getD_none, Option.getD_some, Int.toNat_one, Nat.lt_irrefl, Nat.mul_one, Bool.false_eq_true, Bool.true_eq_false, decide_true, decide_false, decide_eq_true_eq, decide_eq_false_iff_not, Bool.not_true, Bool.not_false, Bool.not_eq_true', Bool.not_eq_false', Bool.and_true, Bool.true_and, Bool.false_and, beq_self_eq_true, ite_true, ite_false, Option.map_some, Option.map_none, Option.isSome_some, true_and, and_true, false_and, and_false, not_true_eq_false, not_false_eq_true, false_implies, true_implies, implies_true, eq_self, ne_eq, or_true, true_or, or_false, false_or, Bool.or_false, Bool.or_true, Bool.false_or, Bool.true_or, Int.toNat_natCast, Int.natCast_nonneg, Int.ofNat_lt, Int.ofNat_le, Int.ofNat_inj, Int.ofNat_zero, ↓reduceIte, reduceIte, replT, filtT, countL, cls, look, aload, astore, aindex, afieldA, afield, aidx, apart, aslice, ibound, acap, azapp, abuildS, abuild, aFill, setL, zrep, asrc, aappend, aconv, alen, amake, amkmap, alookup, aupdate, aalloc, abox, newO, place, rd, Nat.reducePow, AV.isPtr, Nat.reduceLT, Nat.reduceLeDiff, Nat.reduceEqDiff, Nat.reduceAdd, Nat.reduceMul, Nat.reduceSub, Nat.reduceBEq, updL, cellsFrom, reduceCtorEq, ints, bools, intss, sl1, wFacts]
        refine ⟨fun _ => ⟨by omega, by omega, ret1 rfl ?_⟩, fun h => by omega⟩
        have e : codeT (.node (-1) .nil .nil (s.getD 0 0)) = [IntKind.i64.wrap (-1 - s.getD 0 0)] := if_pos rfl
        rw [e]
        exact sees_of_weak (settled_ints _) (weak_slW rfl (Nat.le_refl _) fun j hj => by
          obtain rfl : j = 0 := by simpa using hj
          exact Weak.rfl' _)
      · simp only [flw]
        rw [if_neg (by omega), if_pos trivial, if_pos ⟨trivial, trivial, h1, trivial⟩]
    obtain ⟨k0, hk0, hok0⟩ := hap.split (by omega)
    have bf := atF_bound l a C.length (by omega)
    obtain ⟨F, hF⟩ : ∃ F : Nat, atF l a C.length = F := ⟨(atF l a C.length).toNat, by omega⟩
    have hex : ∃ i : Nat, okK W s ((F + i) % C.length) := by
      refine ⟨k0 + C.length - F, ?_⟩
      rw [show F + (k0 + C.length - F) = k0 + C.length by omega, Nat.add_mod_right, Nat.mod_eq_of_lt hk0]
      exact hok0
    obtain ⟨i0, hi0, hleast⟩ := least_of hex
    have hi0lt : i0 < C.length := by
      rcases Nat.lt_or_ge i0 C.length with h | h
      · exact h
      · exfalso
        refine hleast (i0 - C.length) (by omega) ?_
        have : (F + (i0 - C.length)) % C.length = (F + i0) % C.length := by
          rw [show F + i0 = F + (i0 - C.length) + C.length by omega, Nat.add_mod_right]
        rw [this]; exact hi0
    obtain ⟨k, hk⟩ : ∃ k, k = (F + i0) % C.length := ⟨_, rfl⟩
    rw [← hk] at hi0
    have hkl : k < C.length := by rw [hk]; exact Nat.mod_lt _ (by omega)
    obtain ⟨o1, o2⟩ := hi0
    have hsl := side_length W s k
    obtain ⟨t1, c1, f1, g1, p1, q1⟩ := ih _ (by omega) (side W s k false) (a + 1) rfl (by omega) (by omega) (hap.side k false) (fun i hi => hin i (side_mem hi)) (by omega) (by omega)
    obtain ⟨t2, c2, f2, g2, p2, q2⟩ := ih _ (by omega) (side W s k true) (a + 2) rfl (by omega) (by omega) (hap.side k true) (fun i hi => hin i (side_mem hi)) (by omega) (by omega)
    have hcode : codeT (.node k t1 t2 (-1)) = [[(k : Int)], codeT t1, codeT t2].flatten := if_neg (by omega)
    refine ⟨.node k t1 t2 (-1), C.getD k 0 + max c1 c2, ?_, ?_, by rw [hcode]; simp, by rw [hcode]; simp; omega⟩
    · refine Fn.intro (fn := Try.f19) Try.call19 Try.func19 rfl mixed 16 [] [] [] (by kernel_rfl) (Nat.le_of_ble_eq_true rfl) (by simp [settled_ints, settled_I, settled_fn0, settled_intss, settled_bool, settled_tree, settled_nil]) (vc_soundN 1000 ?_); simp (config := { maxSteps := 2000000 }) only [AS.start, ↓wPre, wPost, List.getD_cons_succ, List.getD_cons_zero, List.set_cons_succ, List.set_cons_zero, List.map_cons, List.map_nil, List.all_cons, List.all_nil, List.length_cons, List.length_nil, List.cons_append, List.nil_append, List.append_nil, List.getElem?_cons_succ, List.getElem?_cons_zero, List.replicate_succ, List.replicate_zero, List.contains_cons, List.contains_nil, List.elem_cons, List.elem_nil, Nat.zero_add, Nat.add_zero, Nat.zero_lt_succ, Int.toNat_zero, Nat.min_self, Nat.zero_min, Nat.min_zero, Nat.sub_zero, Nat.zero_mul, Int.le_refl, Nat.le_refl, Option.getD_none, Option.getD_some, Int.toNat_one, Nat.lt_irrefl, Nat.mul_one, Bool.false_eq_true, Bool.true_eq_false, decide_true, decide_false, decide_eq_true_eq, decide_eq_false_iff_not, Bool.not_true, Bool.not_false, Bool.not_eq_true', Bool.not_eq_false', Bool.and_true, Bool.true_and, Bool.false_and, beq_self_eq_true, ite_true, ite_false, Option.map_some, Option.map_none, Option.isSome_some, true_and, and_true, false_and, and_false, not_true_eq_false, not_false_eq_true, false_implies, true_implies, implies_true, eq_self, ne_eq, or_true, true_or, or_false, false_or, Bool.or_false, Bool.or_true, Bool.false_or, Bool.true_or, Int.toNat_natCast, Int.natCast_nonneg, Int.ofNat_lt, Int.ofNat_le, Int.ofNat_inj, Int.ofNat_zero, ↓reduceIte, reduceIte, replT, filtT, countL, cls, look, aload, astore, aindex, afieldA, afield, aidx, apart, aslice, ibound, acap, azapp, abuildS, abuild, aFill, setL, zrep, asrc, aappend, aconv, alen, amake, amkmap, alookup, aupdate, aalloc, abox, newO, place, rd, Nat.reducePow, AV.isPtr, Nat.reduceLT, Nat.reduceLeDiff, Nat.reduceEqDiff, Nat.reduceAdd, Nat.reduceMul, Nat.reduceSub, Nat.reduceBEq, updL, cellsFrom, reduceCtorEq, ints, bools, intss, sl1, wFacts]
      refine ⟨fun h => by omega, fun _ => ?_⟩
      refine call_fn (at_fn l a C.length hl (by omega)) rfl ?_
      rw [hF]
      simp only [↓wPre, wPost, List.getD_cons_succ, List.getD_cons_zero, List.set_cons_succ, List.set_cons_zero, List.map_cons, List.map_nil, List.all_cons, List.all_nil, List.length_cons, List.length_nil, List.cons_append, List.nil_append, List.append_nil, List.getElem?_cons_succ, List.getElem?_cons_zero, List.replicate_succ, List.replicate_zero, List.contains_cons, List.contains_nil, List.elem_cons, List.elem_nil, Nat.zero_add, Nat.add_zero, Nat.zero_lt_succ, Int.toNat_zero, Nat.min_self, Nat.zero_min, Nat.min_zero, Nat.sub_zero, Nat.zero_mul, Int.le_refl, Nat.le_refl, Option.getD_none, Option.getD_some, Int.toNat_one, Nat.lt_irrefl, Nat.mul_one, Bool.false_eq_true, Bool.true_eq_false, decide_true, decide_false, decide_eq_true_eq, decide_eq_false_iff_not, Bool.not_true, Bool.not_false, Bool.not_eq_true', Bool.not_eq_false', Bool.and_true, Bool.true_and, Bool.false_and, beq_self_eq_true, ite_true, ite_false, Option.map_some, Option.map_none, Option.isSome_some, true_and, and_true, false_and, and_false, not_true_eq_false, not_false_eq_true, false_implies, true_implies, implies_true, eq_self, ne_eq, or_true, true_or, or_false, false_or, Bool.or_false, Bool.or_true, Bool.false_or, Bool.true_or, Int.toNat_natCast, Int.natCast_nonneg, Int.ofNat_lt, Int.ofNat_le, Int.ofNat_inj, Int.ofNat_zero, ↓reduceIte, reduceIte, replT, filtT, countL, cls, look, aload, astore, aindex, afieldA, afield, aidx, apart, aslice, ibound, acap, azapp, abuildS, abuild, aFill, setL, zrep, asrc, aappend, aconv, alen, amake, amkmap, alookup, aupdate, aalloc, abox, newO, place, rd, Nat.reducePow, AV.isPtr, Nat.reduceLT, Nat.reduceLeDiff, Nat.reduceEqDiff, Nat.reduceAdd, Nat.reduceMul, Nat.reduceSub, Nat.reduceBEq, updL, cellsFrom, reduceCtorEq, ints, bools, intss, sl1, wFacts]
      refine run_loop (fun i : Nat => ⟨16, [], [ints W, ints C, ints s, ints l, I a, .any, .any, .any, .any, .any, .any, I F, I i, .any, .any, .any], [], []⟩) (fun i => i ≤ i0) (fun i => C.length - i) 0 (by omega)
        (sub_mk rfl (by simp [subL, ints, sl1, I]) (by simp [subT]) rfl) ?_
      intro i hi next
      have w1 := wj i (by omega)
      have wk : (IntKind.i64.wrap ((F : Int) + i)).tmod C.length = (((F + i) % C.length : Nat) : Int) := by
        rw [show IntKind.i64.wrap ((F : Int) + i) = ((F + i : Nat) : Int) by rw [IntKind.wrap_i64]; omega, Int.tmod_eq_emod_of_nonneg (by omega)]
        simp
      have wa1 : IntKind.i64.wrap (a + 1) = a + 1 := by rw [IntKind.wrap_i64]; omega
      have wa2 : IntKind.i64.wrap (a + 2) = a + 2 := by rw [IntKind.wrap_i64]; omega
      refine vc_soundN 1000 ?_
      simp only [w1, wk, ↓wPre, wPost, List.getD_cons_succ, List.getD_cons_zero, List.set_cons_succ, List.set_cons_zero, List.map_cons, List.map_nil, List.all_cons, List.all_nil, List.length_cons, List.length_nil, List.cons_append, List.nil_append, List.append_nil, List.getElem?_cons_succ, List.getElem?_cons_zero, List.replicate_succ, List.replicate_zero, List.contains_cons, List.contains_nil, List.elem_cons, List.elem_nil, Nat.zero_add, Nat.add_zero, Nat.zero_lt_succ, Int.toNat_zero, Nat.min_self, Nat.zero_min, Nat.min_zero, Nat.sub_zero, Nat.zero_mul, Int.le_refl, Nat.le_refl, Option.getD_none, Option.getD_some, Int.toNat_one, Nat.lt_irrefl, Nat.mul_one, Bool.false_eq_true, Bool.true_eq_false, decide_true, decide_false, decide_eq_true_eq, decide_eq_false_iff_not, Bool.not_true, Bool.not_false, Bool.not_eq_true', Bool.not_eq_false', Bool.and_true, Bool.true_and, Bool.false_and, beq_self_eq_true, ite_true, ite_false, Option.map_some, Option.map_none, Option.isSome_some, true_and, and_true, false_and, and_false, not_true_eq_false, not_false_eq_true, false_implies, true_implies, implies_true, eq_self, ne_eq, or_true, true_or, or_false, false_or, Bool.or_false, Bool.or_true, Bool.false_or, Bool.true_or, Int.toNat_natCast, Int.natCast_nonneg, Int.ofNat_lt, Int.ofNat_le, Int.ofNat_inj, Int.ofNat_zero, ↓reduceIte, reduceIte, replT, filtT, countL, cls, look, aload, astore, aindex, afieldA, afield, aidx, apart, aslice, ibound, acap, azapp, abuildS, abuild, aFill, setL, zrep, asrc, aappend, aconv, alen, amake, amkmap, alookup, aupdate, aalloc, abox, newO, place, rd, Nat.reducePow, AV.isPtr, Nat.reduceLT, Nat.reduceLeDiff, Nat.reduceEqDiff, Nat.reduceAdd, Nat.reduceMul, Nat.reduceSub, Nat.reduceBEq, updL, cellsFrom, reduceCtorEq, ints, bools, intss, sl1, wFacts]
      refine ⟨fun h => ⟨by omega, ?_⟩, fun h => by omega⟩
      refine call_fn (sides_fn W s (((F + i) % C.length : Nat) : Int) (by omega) hin (by omega)) rfl ?_
      simp only [w1, wk, ↓wPre, wPost, List.getD_cons_succ, List.getD_cons_zero, List.set_cons_succ, List.set_cons_zero, List.map_cons, List.map_nil, List.all_cons, List.all_nil, List.length_cons, List.length_nil, List.cons_append, List.nil_append, List.append_nil, List.getElem?_cons_succ, List.getElem?_cons_zero, List.replicate_succ, List.replicate_zero, List.contains_cons, List.contains_nil, List.elem_cons, List.elem_nil, Nat.zero_add, Nat.add_zero, Nat.zero_lt_succ, Int.toNat_zero, Nat.min_self, Nat.zero_min, Nat.min_zero, Nat.sub_zero, Nat.zero_mul, Int.le_refl, Nat.le_refl, Option.getD_none, Option.getD_some, Int.toNat_one, Nat.lt_irrefl, Nat.mul_one, Bool.false_eq_true, Bool.true_eq_false, decide_true, decide_false, decide_eq_true_eq, decide_eq_false_iff_not, Bool.not_true, Bool.not_false, Bool.not_eq_true', Bool.not_eq_false', Bool.and_true, Bool.true_and, Bool.false_and, beq_self_eq_true, ite_true, ite_false, Option.map_some, Option.map_none, Option.isSome_some, true_and, and_true, false_and, and_false, not_true_eq_false, not_false_eq_true, false_implies, true_implies, implies_true, eq_self, ne_eq, or_true, true_or, or_false, false_or, Bool.or_false, Bool.or_true, Bool.false_or, Bool.true_or, Int.toNat_natCast, Int.natCast_nonneg, Int.ofNat_lt, Int.ofNat_le, Int.ofNat_inj, Int.ofNat_zero, ↓reduceIte, reduceIte, replT, filtT, countL, cls, look, aload, astore, aindex, afieldA, afield, aidx, apart, aslice, ibound, acap, azapp, abuildS, abuild, aFill, setL, zrep, asrc, aappend, aconv, alen, amake, amkmap, alookup, aupdate, aalloc, abox, newO, place, rd, Nat.reducePow, AV.isPtr, Nat.reduceLT, Nat.reduceLeDiff, Nat.reduceEqDiff, Nat.reduceAdd, Nat.reduceMul, Nat.reduceSub, Nat.reduceBEq, updL, cellsFrom, reduceCtorEq, ints, bools, intss, sl1, wFacts]
      have stop : okK W s ((F + i) % C.length) → i = i0 := fun ho => by
        rcases Nat.lt_or_ge i i0 with hlt | hge
        · exact absurd ho (hleast i hlt)
        · omega
      have go : ¬ okK W s ((F + i) % C.length) → i < i0 := fun ho => by
        rcases Nat.lt_or_ge i i0 with hlt | hge
        · exact hlt
        · obtain rfl : i = i0 := by omega
          rw [← hk] at ho
          exact absurd ⟨o1, o2⟩ ho
      refine ⟨fun h3 => ⟨fun h4 => ?_, fun h4 => next (i + 1) _ (go (by unfold okK; omega)) (by omega) (sub_mk rfl (by simp [subL, ints, sl1, I]) (by simp [subT]) rfl)⟩, fun h3 => next (i + 1) _ (go (by unfold okK; omega)) (by omega) (sub_mk rfl (by simp [subL, ints, sl1, I]) (by simp [subT]) rfl)⟩
      obtain rfl := stop (by unfold okK; omega)
      rw [← hk]
      refine call_fn f1 (by rw [wa1]; rfl) ?_
      simp only [w1, wk, wa1, wa2, ↓wPre, wPost, List.getD_cons_succ, List.getD_cons_zero, List.set_cons_succ, List.set_cons_zero, List.map_cons, List.map_nil, List.all_cons, List.all_nil, List.length_cons, List.length_nil, List.cons_append, List.nil_append, List.append_nil, List.getElem?_cons_succ, List.getElem?_cons_zero, List.replicate_succ, List.replicate_zero, List.contains_cons, List.contains_nil, List.elem_cons, List.elem_nil, Nat.zero_add, Nat.add_zero, Nat.zero_lt_succ, Int.toNat_zero, Nat.min_self, Nat.zero_min, Nat.min_zero, Nat.sub_zero, Nat.zero_mul, Int.le_refl, Nat.le_refl, Option.getD_none, Option.getD_some, Int.toNat_one, Nat.lt_irrefl, Nat.mul_one, Bool.false_eq_true, Bool.true_eq_false, decide_true, decide_false, decide_eq_true_eq, decide_eq_false_iff_not, Bool.not_true, Bool.not_false, Bool.not_eq_true', Bool.not_eq_false', Bool.and_true, Bool.true_and, Bool.false_and, beq_self_eq_true, ite_true, ite_false, Option.map_some, Option.map_none, Option.isSome_some, true_and, and_true, false_and, and_false, not_true_eq_false, not_false_eq_true, false_implies, true_implies, implies_true, eq_self, ne_eq, or_true, true_or, or_false, false_or, Bool.or_false, Bool.or_true, Bool.false_or, Bool.true_or, Int.toNat_natCast, Int.natCast_nonneg, Int.ofNat_lt, Int.ofNat_le, Int.ofNat_inj, Int.ofNat_zero, ↓reduceIte, reduceIte, replT, filtT, countL, cls, look, aload, astore, aindex, afieldA, afield, aidx, apart, aslice, ibound, acap, azapp, abuildS, abuild, aFill, setL, zrep, asrc, aappend, aconv, alen, amake, amkmap, alookup, aupdate, aalloc, abox, newO, place, rd, Nat.reducePow, AV.isPtr, Nat.reduceLT, Nat.reduceLeDiff, Nat.reduceEqDiff, Nat.reduceAdd, Nat.reduceMul, Nat.reduceSub, Nat.reduceBEq, updL, cellsFrom, reduceCtorEq, ints, bools, intss, sl1, wFacts]
      refine ⟨by omega, ?_⟩
      refine call_fn f2 rfl ?_
      simp only [w1, wk, wa1, wa2, ↓wPre, wPost, List.getD_cons_succ, List.getD_cons_zero, List.set_cons_succ, List.set_cons_zero, List.map_cons, List.map_nil, List.all_cons, List.all_nil, List.length_cons, List.length_nil, List.cons_append, List.nil_append, List.append_nil, List.getElem?_cons_succ, List.getElem?_cons_zero, List.replicate_succ, List.replicate_zero, List.contains_cons, List.contains_nil, List.elem_cons, List.elem_nil, Nat.zero_add, Nat.add_zero, Nat.zero_lt_succ, Int.toNat_zero, Nat.min_self, Nat.zero_min, Nat.min_zero, Nat.sub_zero, Nat.zero_mul, Int.le_refl, Nat.le_refl, Option.getD_none, Option.getD_some, Int.toNat_one, Nat.lt_irrefl, Nat.mul_one, Bool.false_eq_true, Bool.true_eq_false, decide_true, decide_false, decide_eq_true_eq, decide_eq_false_iff_not, Bool.not_true, Bool.not_false, Bool.not_eq_true', Bool.not_eq_false', Bool.and_true, Bool.true_and, Bool.false_and, beq_self_eq_true, ite_true, ite_false, Option.map_some, Option.map_none, Option.isSome_some, true_and, and_true, false_and, and_false, not_true_eq_false, not_false_eq_true, false_implies, true_implies, implies_true, eq_self, ne_eq, or_true, true_or, or_false, false_or, Bool.or_false, Bool.or_true, Bool.false_or, Bool.true_or, Int.toNat_natCast, Int.natCast_nonneg, Int.ofNat_lt, Int.ofNat_le, Int.ofNat_inj, Int.ofNat_zero, ↓reduceIte, reduceIte, replT, filtT, countL, cls, look, aload, astore, aindex, afieldA, afield, aidx, apart, aslice, ibound, acap, azapp, abuildS, abuild, aFill, setL, zrep, asrc, aappend, aconv, alen, amake, amkmap, alookup, aupdate, aalloc, abox, newO, place, rd, Nat.reducePow, AV.isPtr, Nat.reduceLT, Nat.reduceLeDiff, Nat.reduceEqDiff, Nat.reduceAdd, Nat.reduceMul, Nat.reduceSub, Nat.reduceBEq, updL, cellsFrom, reduceCtorEq, ints, bools, intss, sl1, wFacts]
      refine ⟨by omega, ret1 rfl ?_⟩
      rw [hcode]
      exact sees_intsF rfl rfl (by simp; omega) (by simp; omega) (fun j hj => by rw [← app3 _ _ _ _ (by simpa [Nat.add_assoc, Nat.add_comm, Nat.add_left_comm] using hj)])
    · rw [flw, if_neg (by omega), if_neg (by omega), if_neg (by omega), g1, g2]
      simp
end
end Go.Ab.Q
