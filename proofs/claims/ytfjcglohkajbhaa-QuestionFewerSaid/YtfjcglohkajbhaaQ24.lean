/- Contracts of functions of this chapter, for every argument that fits, and what they need. -/
import Derived.Test.YtfjcglohkajbhaaQ23
set_option linter.unusedSimpArgs false
set_option linter.unusedVariables false
namespace Go.Ab.Q
open Go Go.RowKit Go.Proofs
noncomputable section
set_option maxRecDepth 10000
set_option maxHeartbeats 1000000
set_option linter.unusedSimpArgs false
open Classical

theorem pigeon {f : Nat → Int} : ∀ (m : Nat) (L : List Int), (∀ i j, i < m → j < m → f i = f j → i = j) → (∀ d, d < m → f d ∈ L) → m ≤ L.length
  | 0, _, _, _ => Nat.zero_le _
  | m + 1, L, hi, hm => by
    have h0 := hm m (by omega)
    have := pigeon m (L.erase (f m)) (fun i j h1 h2 e => hi i j (by omega) (by omega) e) (fun d hd => by
      refine (List.mem_erase_of_ne ?_).2 (hm d (by omega))
      intro e
      have := hi d m (by omega) (by omega) e
      omega)
    rw [List.length_erase_of_mem h0] at this
    have hp : 0 < L.length := List.length_pos_of_mem h0
    omega
theorem least_of {P : Nat → Prop} (h : ∃ d, P d) : ∃ d, P d ∧ ∀ t, t < d → ¬ P t := by
  obtain ⟨d, hd⟩ := h
  induction d using Nat.strongRecOn with
  | _ d ih =>
    by_cases hq : ∃ t, t < d ∧ P t
    · obtain ⟨t, h1, h2⟩ := hq; exact ih t h1 h2
    · exact ⟨d, hd, fun t ht hp => hq ⟨t, ht, hp⟩⟩
theorem free_ex (L : List Int) (w M : Int) (hM : (L.length : Int) < M) : ∃ d : Nat, (w + d) % M ∉ L ∧ ∀ t : Nat, t < d → (w + t) % M ∈ L := by
  have hex : ∃ d : Nat, (w + d) % M ∉ L := by
    by_cases h : ∃ d : Nat, (w + d) % M ∉ L
    · exact h
    · exfalso
      have := pigeon (f := fun d : Nat => (w + d) % M) M.toNat L (fun i j hi hj e => by
        have h1 : ((w + i) - (w + j)) % M = 0 := Int.emod_eq_emod_iff_emod_sub_eq_zero.1 e
        have h2 : M ∣ ((w + i) - (w + j)) := Int.dvd_of_emod_eq_zero h1
        obtain ⟨c, hc⟩ := h2
        have hc2 : (i : Int) - j = M * c := by omega
        have : c = 0 := by
          rcases Int.lt_trichotomy c 0 with h | h | h
          · have : M * c ≤ M * (-1) := Int.mul_le_mul_of_nonneg_left (by omega) (by omega)
            omega
          · exact h
          · have : M * 1 ≤ M * c := Int.mul_le_mul_of_nonneg_left (by omega) (by omega)
            omega
        subst this
        omega) (fun d _ => by
          by_cases hd : (w + d) % M ∈ L
          · exact hd
          · exact absurd ⟨d, hd⟩ h)
      omega
  obtain ⟨d, h1, h2⟩ := least_of hex
  exact ⟨d, h1, fun t ht => Classical.not_not.1 (h2 t ht)⟩
/-- The first world from w on that is not yet there. -/
def freeD (L : List Int) (w M : Int) : Nat := if h : (L.length : Int) < M then Classical.choose (free_ex L w M h) else 0
theorem freeD_spec {L : List Int} {w M : Int} (h : (L.length : Int) < M) : (w + freeD L w M) % M ∉ L ∧ ∀ t : Nat, t < freeD L w M → (w + t) % M ∈ L := by
  unfold freeD; rw [dif_pos h]; exact Classical.choose_spec (free_ex L w M h)
def wsF (l : List Int) (M : Int) : Nat → List Int
  | 0 => []
  | i + 1 => wsF l M i ++ [(atF l (2 + i) M + freeD (wsF l M i) (atF l (2 + i) M) M) % M]
theorem wsF_len (l : List Int) (M : Int) : ∀ i, (wsF l M i).length = i
  | 0 => rfl
  | i + 1 => by simp [wsF, wsF_len l M i]
def csF (l : List Int) (k : Nat) : List Int := (List.range k).map fun i : Nat => 1 + atF l (8 + i) 5
theorem csF_succ (l : List Int) (k : Nat) : csF l (k + 1) = csF l k ++ [1 + atF l (8 + k) 5] := by simp [csF, List.range_succ]
theorem csF_len (l : List Int) (k : Nat) : (csF l k).length = k := by simp [csF]
theorem wsF_at (l : List Int) (M : Int) : ∀ (n j : Nat), j < n → (wsF l M n).getD j 0 = (atF l (2 + j) M + freeD (wsF l M j) (atF l (2 + j) M) M) % M ∧ (wsF l M n).take j = wsF l M j
  | 0, j, h => by omega
  | n + 1, j, h => by
    have hl := wsF_len l M n
    by_cases hj : j = n
    · subst hj
      simp only [wsF]
      constructor
      · rw [List.getD_eq_getElem?_getD, List.getElem?_append_right (by omega), hl]; simp
      · rw [List.take_append_of_le_length (by omega), List.take_of_length_le (by omega)]
    · obtain ⟨h1, h2⟩ := wsF_at l M n j (by omega)
      simp only [wsF]
      constructor
      · rw [← h1, List.getD_eq_getElem?_getD, List.getElem?_append_left (by omega), ← List.getD_eq_getElem?_getD]
      · rw [List.take_append_of_le_length (by omega), h2]
theorem worlds_proper (l : List Int) (n q : Nat) (hn0 : 0 < n) (hn : n ≤ 6) (hq : 3 ≤ q) (hq5 : q ≤ 5) : properF (wsF l (2 ^ q) n) (csF l q) = 0 := by
  have hM : (2 : Int) ^ q = ((2 ^ q : Nat) : Int) := by simp
  have hlow : 2 ^ 3 ≤ 2 ^ q := Nat.pow_le_pow_right (by omega) hq
  have h8 : (8 : Int) ≤ 2 ^ q := by rw [hM]; omega
  have hlen := wsF_len l (2 ^ q) n
  have hcl := csF_len l q
  unfold properF
  rw [if_pos (by unfold sizeOk; omega), if_pos]
  refine ⟨fun j hj => ?_, ?_⟩
  · rw [hlen] at hj
    obtain ⟨h1, h2⟩ := wsF_at l (2 ^ q) n j hj
    unfold worldOk
    rw [h1, h2, hcl]
    have hjl := wsF_len l (2 ^ q) j
    have hs := freeD_spec (L := wsF l (2 ^ q) j) (w := atF l (2 + j) (2 ^ q)) (M := 2 ^ q) (by omega)
    exact ⟨Int.emod_nonneg _ (by omega), Int.emod_lt_of_pos _ (by omega), hs.1⟩
  · rintro ⟨c, hc, hb⟩
    simp only [csF, List.mem_map, List.mem_range] at hc
    obtain ⟨i, _, rfl⟩ := hc
    have := atF_bound l (8 + i) 5 (by omega)
    omega

theorem worlds_fn (l : List Int) (hl : all64 l) : ∃ n q : Nat, 0 < n ∧ n ≤ 6 ∧ 3 ≤ q ∧ q ≤ 5 ∧ Fn Try.prog 26 [ints l] (.tup [ints (wsF l (2 ^ q) n), ints (csF l q)]) := by
  have b0 := atF_bound l 0 3 (by omega)
  have b1 := atF_bound l 1 6 (by omega)
  obtain ⟨q, hq⟩ : ∃ q : Nat, 3 + atF l 0 3 = q := ⟨(3 + atF l 0 3).toNat, by omega⟩
  obtain ⟨n, hn⟩ : ∃ n : Nat, 1 + atF l 1 6 = n := ⟨(1 + atF l 1 6).toNat, by omega⟩
  refine ⟨n, q, by omega, by omega, by omega, by omega, ?_⟩
  have wq : IntKind.i64.wrap (3 + atF l 0 3) = q := by rw [hq, IntKind.wrap_i64]; omega
  have wn : IntKind.i64.wrap (1 + atF l 1 6) = n := by rw [hn, IntKind.wrap_i64]; omega
  have hM : (2 : Int) ^ q = ((2 ^ q : Nat) : Int) := by simp
  have hlow : 2 ^ 3 ≤ 2 ^ q := Nat.pow_le_pow_right (by omega) (by omega)
  have hhi : 2 ^ q ≤ 2 ^ 5 := Nat.pow_le_pow_right (by omega) (by omega)
  have h8 : (8 : Int) ≤ 2 ^ q := by rw [hM]; omega
  have h32 : (2 : Int) ^ q ≤ 32 := by rw [hM]; omega
  have wM : ishl .i64 1 q = 2 ^ q := ishl1 q (by omega)
  refine Fn.intro (fn := Try.f26) Try.call26 Try.func26 rfl mixed 11 [] [] [] (by kernel_rfl) (Nat.le_of_ble_eq_true rfl) (by simp [settled_ints, settled_I, settled_fn0, settled_intss, settled_bool, settled_tree, settled_nil]) (vc_soundN 1000 ?_); simp (config := { maxSteps := 2000000 }) only [AS.start, ↓wPre, wPost, List.getD_cons_succ, List.getD_cons_zero, List.set_cons_succ, List.set_cons_zero, List.map_cons, List.map_nil, List.all_cons, List.all_nil, List.length_cons, List.length_nil, List.cons_append, List.nil_append, List.append_nil, List.getElem?_cons_succ, List.getElem?_cons_zero, List.replicate_succ, List.replicate_zero, List.contains_cons, List.contains_nil, List.elem_cons, List.elem_nil, Nat.zero_add, Nat.add_zero, Nat.zero_lt_succ, Int.toNat_zero, Nat.min_self, Nat.zero_min, Nat.min_zero, Nat.sub_zero, Nat.zero_mul, Int.le_refl, Nat.le_refl, Option.getD_none, Option.getD_some, Int.toNat_one, Nat.lt_irrefl, Nat.mul_one, Bool.false_eq_true, Bool.true_eq_false, decide_true, decide_false, decide_eq_true_eq, decide_eq_false_iff_not, Bool.not_true, Bool.not_false, Bool.not_eq_true', Bool.not_eq_false', Bool.and_true, Bool.true_and, Bool.false_and, beq_self_eq_true, ite_true, ite_false, Option.map_some, Option.map_none, Option.isSome_some, true_and, and_true, false_and, and_false, not_true_eq_false, not_false_eq_true, false_implies, true_implies, implies_true, eq_self, ne_eq, or_true, true_or, or_false, false_or, Bool.or_false, Bool.or_true, Bool.false_or, Bool.true_or, Int.toNat_natCast, Int.natCast_nonneg, Int.ofNat_lt, Int.ofNat_le, Int.ofNat_inj, Int.ofNat_zero, ↓reduceIte, reduceIte, replT, filtT, countL, cls, look, aload, astore, aindex, afieldA, afield, aidx, apart, aslice, ibound, acap, azapp, abuildS, abuild, aFill, setL, zrep, asrc, aappend, aconv, alen, amake, amkmap, alookup, aupdate, aalloc, abox, newO, place, rd, Nat.reducePow, AV.isPtr, Nat.reduceLT, Nat.reduceLeDiff, Nat.reduceEqDiff, Nat.reduceAdd, Nat.reduceMul, Nat.reduceSub, Nat.reduceBEq, updL, cellsFrom, reduceCtorEq, ints, bools, intss, sl1, wFacts]
  refine call_fn (at_fn l 0 3 hl (by omega)) rfl ?_
  simp only [wq, wn, ↓wPre, wPost, List.getD_cons_succ, List.getD_cons_zero, List.set_cons_succ, List.set_cons_zero, List.map_cons, List.map_nil, List.all_cons, List.all_nil, List.length_cons, List.length_nil, List.cons_append, List.nil_append, List.append_nil, List.getElem?_cons_succ, List.getElem?_cons_zero, List.replicate_succ, List.replicate_zero, List.contains_cons, List.contains_nil, List.elem_cons, List.elem_nil, Nat.zero_add, Nat.add_zero, Nat.zero_lt_succ, Int.toNat_zero, Nat.min_self, Nat.zero_min, Nat.min_zero, Nat.sub_zero, Nat.zero_mul, Int.le_refl, Nat.le_refl, Option.getD_none, Option.getD_some, Int.toNat_one, Nat.lt_irrefl, Nat.mul_one, Bool.false_eq_true, Bool.true_eq_false, decide_true, decide_false, decide_eq_true_eq, decide_eq_false_iff_not, Bool.not_true, Bool.not_false, Bool.not_eq_true', Bool.not_eq_false', Bool.and_true, Bool.true_and, Bool.false_and, beq_self_eq_true, ite_true, ite_false, Option.map_some, Option.map_none, Option.isSome_some, true_and, and_true, false_and, and_false, not_true_eq_false, not_false_eq_true, false_implies, true_implies, implies_true, eq_self, ne_eq, or_true, true_or, or_false, false_or, Bool.or_false, Bool.or_true, Bool.false_or, Bool.true_or, Int.toNat_natCast, Int.natCast_nonneg, Int.ofNat_lt, Int.ofNat_le, Int.ofNat_inj, Int.ofNat_zero, ↓reduceIte, reduceIte, replT, filtT, countL, cls, look, aload, astore, aindex, afieldA, afield, aidx, apart, aslice, ibound, acap, azapp, abuildS, abuild, aFill, setL, zrep, asrc, aappend, aconv, alen, amake, amkmap, alookup, aupdate, aalloc, abox, newO, place, rd, Nat.reducePow, AV.isPtr, Nat.reduceLT, Nat.reduceLeDiff, Nat.reduceEqDiff, Nat.reduceAdd, Nat.reduceMul, Nat.reduceSub, Nat.reduceBEq, updL, cellsFrom, reduceCtorEq, ints, bools, intss, sl1, wFacts]
  refine call_fn (at_fn l 1 6 hl (by omega)) rfl ?_
  simp only [wq, wn, ↓wPre, wPost, List.getD_cons_succ, List.getD_cons_zero, List.set_cons_succ, List.set_cons_zero, List.map_cons, List.map_nil, List.all_cons, List.all_nil, List.length_cons, List.length_nil, List.cons_append, List.nil_append, List.append_nil, List.getElem?_cons_succ, List.getElem?_cons_zero, List.replicate_succ, List.replicate_zero, List.contains_cons, List.contains_nil, List.elem_cons, List.elem_nil, Nat.zero_add, Nat.add_zero, Nat.zero_lt_succ, Int.toNat_zero, Nat.min_self, Nat.zero_min, Nat.min_zero, Nat.sub_zero, Nat.zero_mul, Int.le_refl, Nat.le_refl, Option.getD_none, Option.getD_some, Int.toNat_one, Nat.lt_irrefl, Nat.mul_one, Bool.false_eq_true, Bool.true_eq_false, decide_true, decide_false, decide_eq_true_eq, decide_eq_false_iff_not, Bool.not_true, Bool.not_false, Bool.not_eq_true', Bool.not_eq_false', Bool.and_true, Bool.true_and, Bool.false_and, beq_self_eq_true, ite_true, ite_false, Option.map_some, Option.map_none, Option.isSome_some, true_and, and_true, false_and, and_false, not_true_eq_false, not_false_eq_true, false_implies, true_implies, implies_true, eq_self, ne_eq, or_true, true_or, or_false, false_or, Bool.or_false, Bool.or_true, Bool.false_or, Bool.true_or, Int.toNat_natCast, Int.natCast_nonneg, Int.ofNat_lt, Int.ofNat_le, Int.ofNat_inj, Int.ofNat_zero, ↓reduceIte, reduceIte, replT, filtT, countL, cls, look, aload, astore, aindex, afieldA, afield, aidx, apart, aslice, ibound, acap, azapp, abuildS, abuild, aFill, setL, zrep, asrc, aappend, aconv, alen, amake, amkmap, alookup, aupdate, aalloc, abox, newO, place, rd, Nat.reducePow, AV.isPtr, Nat.reduceLT, Nat.reduceLeDiff, Nat.reduceEqDiff, Nat.reduceAdd, Nat.reduceMul, Nat.reduceSub, Nat.reduceBEq, updL, cellsFrom, reduceCtorEq, ints, bools, intss, sl1, wFacts]
  refine run_loop (fun i : Nat => ⟨11, [], [ints l, .any, .any, .any, I q, I n, .osl 0 i 1 0 i, I i, .any, .any, .any], [], [.row i i (slF I 0 (wsF l (2 ^ q) i))]⟩) (fun i => i ≤ n) (fun i => n - i) 0 (by omega)
    ((sub_adopt 6 1 (slF I 0 []) rfl).trans (sub_mk rfl ?_ ?_ ?_)) ?_
  · simp [subL, AS.put, ints, sl1, I]
  · simp [subT]
  · simp [AS.put, wsF]
  intro i hi next
  have w1 := wj i (by omega)
  have w2 : IntKind.i64.wrap (2 + (i : Int)) = 2 + i := by rw [IntKind.wrap_i64]; omega
  have hil := wsF_len l (2 ^ q) i
  refine vc_soundN 1000 ?_
  simp only [w1, w2, wM, ↓wPre, wPost, List.getD_cons_succ, List.getD_cons_zero, List.set_cons_succ, List.set_cons_zero, List.map_cons, List.map_nil, List.all_cons, List.all_nil, List.length_cons, List.length_nil, List.cons_append, List.nil_append, List.append_nil, List.getElem?_cons_succ, List.getElem?_cons_zero, List.replicate_succ, List.replicate_zero, List.contains_cons, List.contains_nil, List.elem_cons, List.elem_nil, Nat.zero_add, Nat.add_zero, Nat.zero_lt_succ, Int.toNat_zero, Nat.min_self, Nat.zero_min, Nat.min_zero, Nat.sub_zero, Nat.zero_mul, Int.le_refl, Nat.le_refl, Option.getD_none, Option.getD_some, Int.toNat_one, Nat.lt_irrefl, Nat.mul_one, Bool.false_eq_true, Bool.true_eq_false, decide_true, decide_false, decide_eq_true_eq, decide_eq_false_iff_not, Bool.not_true, Bool.not_false, Bool.not_eq_true', Bool.not_eq_false', Bool.and_true, Bool.true_and, Bool.false_and, beq_self_eq_true, ite_true, ite_false, Option.map_some, Option.map_none, Option.isSome_some, true_and, and_true, false_and, and_false, not_true_eq_false, not_false_eq_true, false_implies, true_implies, implies_true, eq_self, ne_eq, or_true, true_or, or_false, false_or, Bool.or_false, Bool.or_true, Bool.false_or, Bool.true_or, Int.toNat_natCast, Int.natCast_nonneg, Int.ofNat_lt, Int.ofNat_le, Int.ofNat_inj, Int.ofNat_zero, ↓reduceIte, reduceIte, replT, filtT, countL, cls, look, aload, astore, aindex, afieldA, afield, aidx, apart, aslice, ibound, acap, azapp, abuildS, abuild, aFill, setL, zrep, asrc, aappend, aconv, alen, amake, amkmap, alookup, aupdate, aalloc, abox, newO, place, rd, Nat.reducePow, AV.isPtr, Nat.reduceLT, Nat.reduceLeDiff, Nat.reduceEqDiff, Nat.reduceAdd, Nat.reduceMul, Nat.reduceSub, Nat.reduceBEq, updL, cellsFrom, reduceCtorEq, ints, bools, intss, sl1, wFacts]
  refine ⟨fun h => ?_, fun h => ?_⟩
  · refine call_fn (at_fn l (2 + i) (2 ^ q) hl (by omega)) rfl ?_
    have ba := atF_bound l (2 + i) (2 ^ q) (by omega)
    have hs := freeD_spec (L := wsF l (2 ^ q) i) (w := atF l (2 + i) (2 ^ q)) (M := 2 ^ q) (by omega)
    have hnext : wsF l (2 ^ q) (i + 1) = wsF l (2 ^ q) i ++ [(atF l (2 + i) (2 ^ q) + freeD (wsF l (2 ^ q) i) (atF l (2 + i) (2 ^ q)) (2 ^ q)) % 2 ^ q] := rfl
    generalize freeD (wsF l (2 ^ q) i) (atF l (2 + i) (2 ^ q)) (2 ^ q) = D at *
    simp only [w1, w2, wM, ↓wPre, wPost, List.getD_cons_succ, List.getD_cons_zero, List.set_cons_succ, List.set_cons_zero, List.map_cons, List.map_nil, List.all_cons, List.all_nil, List.length_cons, List.length_nil, List.cons_append, List.nil_append, List.append_nil, List.getElem?_cons_succ, List.getElem?_cons_zero, List.replicate_succ, List.replicate_zero, List.contains_cons, List.contains_nil, List.elem_cons, List.elem_nil, Nat.zero_add, Nat.add_zero, Nat.zero_lt_succ, Int.toNat_zero, Nat.min_self, Nat.zero_min, Nat.min_zero, Nat.sub_zero, Nat.zero_mul, Int.le_refl, Nat.le_refl, Option.getD_none, Option.getD_some, Int.toNat_one, Nat.lt_irrefl, Nat.mul_one, Bool.false_eq_true, Bool.true_eq_false, decide_true, decide_false, decide_eq_true_eq, decide_eq_false_iff_not, Bool.not_true, Bool.not_false, Bool.not_eq_true', Bool.not_eq_false', Bool.and_true, Bool.true_and, Bool.false_and, beq_self_eq_true, ite_true, ite_false, Option.map_some, Option.map_none, Option.isSome_some, true_and, and_true, false_and, and_false, not_true_eq_false, not_false_eq_true, false_implies, true_implies, implies_true, eq_self, ne_eq, or_true, true_or, or_false, false_or, Bool.or_false, Bool.or_true, Bool.false_or, Bool.true_or, Int.toNat_natCast, Int.natCast_nonneg, Int.ofNat_lt, Int.ofNat_le, Int.ofNat_inj, Int.ofNat_zero, ↓reduceIte, reduceIte, replT, filtT, countL, cls, look, aload, astore, aindex, afieldA, afield, aidx, apart, aslice, ibound, acap, azapp, abuildS, abuild, aFill, setL, zrep, asrc, aappend, aconv, alen, amake, amkmap, alookup, aupdate, aalloc, abox, newO, place, rd, Nat.reducePow, AV.isPtr, Nat.reduceLT, Nat.reduceLeDiff, Nat.reduceEqDiff, Nat.reduceAdd, Nat.reduceMul, Nat.reduceSub, Nat.reduceBEq, updL, cellsFrom, reduceCtorEq, ints, bools, intss, sl1, wFacts]
    refine run_loop (fun t : Nat => ⟨11, [], [ints l, .any, .any, .any, I q, I n, .osl 0 i 1 0 i, I i, I ((atF l (2 + i) (2 ^ q) + t) % 2 ^ q), .any, .any], [], [.row i i (slF I 0 (wsF l (2 ^ q) i))]⟩) (fun t => t ≤ D) (fun t => D - t) 0 (by omega)
      (sub_mk rfl (by simp [subL, ints, sl1, I, Int.emod_eq_of_lt ba.1 ba.2]) (by simp [subT]) rfl) ?_
    intro t ht nextt
    have bt : 0 ≤ (atF l (2 + i) (2 ^ q) + t) % 2 ^ q ∧ (atF l (2 + i) (2 ^ q) + t) % 2 ^ q < 2 ^ q := ⟨Int.emod_nonneg _ (by omega), Int.emod_lt_of_pos _ (by omega)⟩
    have wt : (IntKind.i64.wrap ((atF l (2 + i) (2 ^ q) + t) % 2 ^ q + 1)).tmod (2 ^ q) = (atF l (2 + i) (2 ^ q) + ((t + 1 : Nat) : Int)) % 2 ^ q := by
      have e1 : IntKind.i64.wrap ((atF l (2 + i) (2 ^ q) + t) % 2 ^ q + 1) = (atF l (2 + i) (2 ^ q) + t) % 2 ^ q + 1 := by
        rw [IntKind.wrap_i64]; omega
      rw [e1, Int.tmod_eq_emod_of_nonneg (by omega), Int.emod_add_emod]
      congr 1; omega
    refine vc_soundN 1000 ?_
    simp only [w1, w2, wM, ↓wPre, wPost, List.getD_cons_succ, List.getD_cons_zero, List.set_cons_succ, List.set_cons_zero, List.map_cons, List.map_nil, List.all_cons, List.all_nil, List.length_cons, List.length_nil, List.cons_append, List.nil_append, List.append_nil, List.getElem?_cons_succ, List.getElem?_cons_zero, List.replicate_succ, List.replicate_zero, List.contains_cons, List.contains_nil, List.elem_cons, List.elem_nil, Nat.zero_add, Nat.add_zero, Nat.zero_lt_succ, Int.toNat_zero, Nat.min_self, Nat.zero_min, Nat.min_zero, Nat.sub_zero, Nat.zero_mul, Int.le_refl, Nat.le_refl, Option.getD_none, Option.getD_some, Int.toNat_one, Nat.lt_irrefl, Nat.mul_one, Bool.false_eq_true, Bool.true_eq_false, decide_true, decide_false, decide_eq_true_eq, decide_eq_false_iff_not, Bool.not_true, Bool.not_false, Bool.not_eq_true', Bool.not_eq_false', Bool.and_true, Bool.true_and, Bool.false_and, beq_self_eq_true, ite_true, ite_false, Option.map_some, Option.map_none, Option.isSome_some, true_and, and_true, false_and, and_false, not_true_eq_false, not_false_eq_true, false_implies, true_implies, implies_true, eq_self, ne_eq, or_true, true_or, or_false, false_or, Bool.or_false, Bool.or_true, Bool.false_or, Bool.true_or, Int.toNat_natCast, Int.natCast_nonneg, Int.ofNat_lt, Int.ofNat_le, Int.ofNat_inj, Int.ofNat_zero, ↓reduceIte, reduceIte, replT, filtT, countL, cls, look, aload, astore, aindex, afieldA, afield, aidx, apart, aslice, ibound, acap, azapp, abuildS, abuild, aFill, setL, zrep, asrc, aappend, aconv, alen, amake, amkmap, alookup, aupdate, aalloc, abox, newO, place, rd, Nat.reducePow, AV.isPtr, Nat.reduceLT, Nat.reduceLeDiff, Nat.reduceEqDiff, Nat.reduceAdd, Nat.reduceMul, Nat.reduceSub, Nat.reduceBEq, updL, cellsFrom, reduceCtorEq, ints, bools, intss, sl1, wFacts]
    have hfn := has_fn (wsF l (2 ^ q) i) ((atF l (2 + i) (2 ^ q) + t) % 2 ^ q) (by omega)
    refine call_lent hfn rfl ⟨sees_intsE rfl rfl hil.symm rfl (by omega), (settled_I _).sees _, trivial⟩ (flat_bool _) ?_
    simp only [w1, w2, wM, wt, ↓wPre, wPost, List.getD_cons_succ, List.getD_cons_zero, List.set_cons_succ, List.set_cons_zero, List.map_cons, List.map_nil, List.all_cons, List.all_nil, List.length_cons, List.length_nil, List.cons_append, List.nil_append, List.append_nil, List.getElem?_cons_succ, List.getElem?_cons_zero, List.replicate_succ, List.replicate_zero, List.contains_cons, List.contains_nil, List.elem_cons, List.elem_nil, Nat.zero_add, Nat.add_zero, Nat.zero_lt_succ, Int.toNat_zero, Nat.min_self, Nat.zero_min, Nat.min_zero, Nat.sub_zero, Nat.zero_mul, Int.le_refl, Nat.le_refl, Option.getD_none, Option.getD_some, Int.toNat_one, Nat.lt_irrefl, Nat.mul_one, Bool.false_eq_true, Bool.true_eq_false, decide_true, decide_false, decide_eq_true_eq, decide_eq_false_iff_not, Bool.not_true, Bool.not_false, Bool.not_eq_true', Bool.not_eq_false', Bool.and_true, Bool.true_and, Bool.false_and, beq_self_eq_true, ite_true, ite_false, Option.map_some, Option.map_none, Option.isSome_some, true_and, and_true, false_and, and_false, not_true_eq_false, not_false_eq_true, false_implies, true_implies, implies_true, eq_self, ne_eq, or_true, true_or, or_false, false_or, Bool.or_false, Bool.or_true, Bool.false_or, Bool.true_or, Int.toNat_natCast, Int.natCast_nonneg, Int.ofNat_lt, Int.ofNat_le, Int.ofNat_inj, Int.ofNat_zero, ↓reduceIte, reduceIte, replT, filtT, countL, cls, look, aload, astore, aindex, afieldA, afield, aidx, apart, aslice, ibound, acap, azapp, abuildS, abuild, aFill, setL, zrep, asrc, aappend, aconv, alen, amake, amkmap, alookup, aupdate, aalloc, abox, newO, place, rd, Nat.reducePow, AV.isPtr, Nat.reduceLT, Nat.reduceLeDiff, Nat.reduceEqDiff, Nat.reduceAdd, Nat.reduceMul, Nat.reduceSub, Nat.reduceBEq, updL, cellsFrom, reduceCtorEq, ints, bools, intss, sl1, wFacts]
    refine ⟨fun hm => ⟨by omega, nextt (t + 1) _ ?_ ?_ (sub_mk rfl (by simp [subL, ints, sl1, I]) (by simp [subT]) rfl)⟩, fun hm => ?_⟩
    · rcases Nat.lt_or_ge t D with h | h
      · omega
      · obtain rfl : t = D := by omega
        exact absurd hm hs.1
    · rcases Nat.lt_or_ge t D with h | h
      · omega
      · obtain rfl : t = D := by omega
        exact absurd hm hs.1
    · have htD : t = D := by
        rcases Nat.lt_or_ge t D with h | h
        · exact absurd (hs.2 t h) hm
        · omega
      subst htD
      have e := appF_I (wsF l (2 ^ q) i) ((atF l (2 + i) (2 ^ q) + t) % 2 ^ q)
      rw [hil, ← hnext] at e
      simp only [e]
      refine ⟨by omega, next (i + 1) _ (by omega) (by omega) (sub_mk rfl (by simp [subL, ints, sl1, I]) (by simp [subT]) rfl)⟩
  obtain rfl : i = n := by omega
  clear next
  refine run_loop (fun k : Nat => ⟨11, [], [ints l, .any, .any, .any, I q, .any, .osl 0 i 1 0 i, .any, .any, .osl 1 k 1 0 k, I k], [], [.row i i (slF I 0 (wsF l (2 ^ q) i)), .row k k (slF I 0 (csF l k))]⟩) (fun k => k ≤ q) (fun k => q - k) 0 (by omega)
    ((sub_adopt 9 1 (slF I 0 []) rfl).trans (sub_mk rfl ?_ ?_ ?_)) ?_
  · simp [subL, AS.put, ints, sl1, I]
  · simp [subT]
  · simp [AS.put, csF]
  intro k hk next
  have w3 := wj k (by omega)
  have w4 : IntKind.i64.wrap (8 + (k : Int)) = 8 + k := by rw [IntKind.wrap_i64]; omega
  have ba := atF_bound l (8 + k) 5 (by omega)
  have w5 : IntKind.i64.wrap (1 + atF l (8 + k) 5) = 1 + atF l (8 + k) 5 := by rw [IntKind.wrap_i64]; omega
  have hkl := csF_len l k
  have e := appF_I (csF l k) (1 + atF l (8 + k) 5)
  rw [hkl, ← csF_succ] at e
  refine vc_soundN 1000 ?_
  simp only [w3, w4, w5, e, ↓wPre, wPost, List.getD_cons_succ, List.getD_cons_zero, List.set_cons_succ, List.set_cons_zero, List.map_cons, List.map_nil, List.all_cons, List.all_nil, List.length_cons, List.length_nil, List.cons_append, List.nil_append, List.append_nil, List.getElem?_cons_succ, List.getElem?_cons_zero, List.replicate_succ, List.replicate_zero, List.contains_cons, List.contains_nil, List.elem_cons, List.elem_nil, Nat.zero_add, Nat.add_zero, Nat.zero_lt_succ, Int.toNat_zero, Nat.min_self, Nat.zero_min, Nat.min_zero, Nat.sub_zero, Nat.zero_mul, Int.le_refl, Nat.le_refl, Option.getD_none, Option.getD_some, Int.toNat_one, Nat.lt_irrefl, Nat.mul_one, Bool.false_eq_true, Bool.true_eq_false, decide_true, decide_false, decide_eq_true_eq, decide_eq_false_iff_not, Bool.not_true, Bool.not_false, Bool.not_eq_true', Bool.not_eq_false', Bool.and_true, Bool.true_and, Bool.false_and, beq_self_eq_true, ite_true, ite_false, Option.map_some, Option.map_none, Option.isSome_some, true_and, and_true, false_and, and_false, not_true_eq_false, not_false_eq_true, false_implies, true_implies, implies_true, eq_self, ne_eq, or_true, true_or, or_false, false_or, Bool.or_false, Bool.or_true, Bool.false_or, Bool.true_or, Int.toNat_natCast, Int.natCast_nonneg, Int.ofNat_lt, Int.ofNat_le, Int.ofNat_inj, Int.ofNat_zero, ↓reduceIte, reduceIte, replT, filtT, countL, cls, look, aload, astore, aindex, afieldA, afield, aidx, apart, aslice, ibound, acap, azapp, abuildS, abuild, aFill, setL, zrep, asrc, aappend, aconv, alen, amake, amkmap, alookup, aupdate, aalloc, abox, newO, place, rd, Nat.reducePow, AV.isPtr, Nat.reduceLT, Nat.reduceLeDiff, Nat.reduceEqDiff, Nat.reduceAdd, Nat.reduceMul, Nat.reduceSub, Nat.reduceBEq, updL, cellsFrom, reduceCtorEq, ints, bools, intss, sl1, wFacts]
  refine ⟨fun h => ?_, fun h => ?_⟩
  · refine call_fn (at_fn l (8 + k) 5 hl (by omega)) rfl ?_
    simp only [w3, w4, w5, e, ↓wPre, wPost, List.getD_cons_succ, List.getD_cons_zero, List.set_cons_succ, List.set_cons_zero, List.map_cons, List.map_nil, List.all_cons, List.all_nil, List.length_cons, List.length_nil, List.cons_append, List.nil_append, List.append_nil, List.getElem?_cons_succ, List.getElem?_cons_zero, List.replicate_succ, List.replicate_zero, List.contains_cons, List.contains_nil, List.elem_cons, List.elem_nil, Nat.zero_add, Nat.add_zero, Nat.zero_lt_succ, Int.toNat_zero, Nat.min_self, Nat.zero_min, Nat.min_zero, Nat.sub_zero, Nat.zero_mul, Int.le_refl, Nat.le_refl, Option.getD_none, Option.getD_some, Int.toNat_one, Nat.lt_irrefl, Nat.mul_one, Bool.false_eq_true, Bool.true_eq_false, decide_true, decide_false, decide_eq_true_eq, decide_eq_false_iff_not, Bool.not_true, Bool.not_false, Bool.not_eq_true', Bool.not_eq_false', Bool.and_true, Bool.true_and, Bool.false_and, beq_self_eq_true, ite_true, ite_false, Option.map_some, Option.map_none, Option.isSome_some, true_and, and_true, false_and, and_false, not_true_eq_false, not_false_eq_true, false_implies, true_implies, implies_true, eq_self, ne_eq, or_true, true_or, or_false, false_or, Bool.or_false, Bool.or_true, Bool.false_or, Bool.true_or, Int.toNat_natCast, Int.natCast_nonneg, Int.ofNat_lt, Int.ofNat_le, Int.ofNat_inj, Int.ofNat_zero, ↓reduceIte, reduceIte, replT, filtT, countL, cls, look, aload, astore, aindex, afieldA, afield, aidx, apart, aslice, ibound, acap, azapp, abuildS, abuild, aFill, setL, zrep, asrc, aappend, aconv, alen, amake, amkmap, alookup, aupdate, aalloc, abox, newO, place, rd, Nat.reducePow, AV.isPtr, Nat.reduceLT, Nat.reduceLeDiff, Nat.reduceEqDiff, Nat.reduceAdd, Nat.reduceMul, Nat.reduceSub, Nat.reduceBEq, updL, cellsFrom, reduceCtorEq, ints, bools, intss, sl1, wFacts]
    refine ⟨by omega, next (k + 1) _ (by omega) (by omega) (sub_mk rfl (by simp [subL, ints, sl1, I]) (by simp [subT]) rfl)⟩
  · obtain rfl : k = q := by omega
    exact ret2 rfl (sees_tup ⟨sees_intsE rfl rfl hil.symm rfl (by omega), sees_intsE rfl rfl hkl.symm rfl (by omega), trivial⟩)
end
end Go.Ab.Q
