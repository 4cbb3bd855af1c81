/- Contracts of functions of this chapter, for every argument that fits, and what they need. -/
import Derived.Test.YtfjcglohkajbhaaQ13
set_option linter.unusedSimpArgs false
set_option linter.unusedVariables false
namespace Go.Ab.Q
open Go Go.RowKit Go.Proofs
noncomputable section
set_option maxRecDepth 10000
set_option maxHeartbeats 1000000
set_option linter.unusedSimpArgs false
open Classical

theorem drop_cons {l : List Int} {a : Nat} (h : a < l.length) : l.drop a = l.getD a 0 :: l.drop (a + 1) := by
  rw [List.drop_eq_getElem_cons h, List.getD_eq_getElem?_getD, List.getElem?_eq_getElem h]; rfl
theorem rd1_rest {l : List Int} {a : Nat} (hok : (rd1 (l.drop a)).2.2 = true) (ha : a ≤ l.length) : endG l (l.drop a) = ((l.length - (rd1 (l.drop a)).2.1.length : Nat) : Int) ∧
    (rd1 (l.drop a)).2.1 = l.drop (l.length - (rd1 (l.drop a)).2.1.length) ∧ l.length - (rd1 (l.drop a)).2.1.length ≤ l.length ∧ a < l.length - (rd1 (l.drop a)).2.1.length := by
  have hsf := (read_suff ((l.drop a).length + 1) (l.drop a)).trans (List.drop_suffix a l)
  have hle := read_len ((l.drop a).length + 1) (l.drop a)
  have hlt : (rd1 (l.drop a)).2.1.length < (l.drop a).length := by
    have hp := parse_read ((l.drop a).length + 1) (l.drop a)
    rw [show readF ((l.drop a).length + 1) (l.drop a) = rd1 (l.drop a) from rfl, if_pos hok] at hp
    exact parse_len _ _ _ _ hp
  rw [show readF ((l.drop a).length + 1) (l.drop a) = rd1 (l.drop a) from rfl] at hsf hle
  have hld : (l.drop a).length = l.length - a := List.length_drop
  refine ⟨?_, List.suffix_iff_eq_drop.1 hsf, by omega, by omega⟩
  unfold endG; rw [hok]; simp only [if_true]; omega

def rfw (W C some m : List Int) : Int := (flw W C some (rd1 m).1).getD (-1)
theorem rfw_neg (W C : List Int) (hc : ¬ anyBad C) (l m : List Int) : (flw W C l (rd1 m).1 = none ∧ rfw W C l m = -1) ∨ ∃ c, flw W C l (rd1 m).1 = some c ∧ rfw W C l m = c ∧ 0 ≤ c ∧ c ≤ 1024 * ((l.length : Int) - 1) := by
  unfold rfw
  cases e : flw W C l (rd1 m).1 with
  | none => exact .inl ⟨rfl, rfl⟩
  | some c =>
    have := flw_bound W C hc _ _ _ e
    exact .inr ⟨c, rfl, rfl, this.1, this.2.1⟩

theorem rfollow_fn (W C l : List Int) (hW : W.length < 1048576) (hC : C.length < 1048576) (hl : l.length < 1048576) (hc : ¬ anyBad C) : ∀ (fuel a : Nat) (s : List Int), l.length - a ≤ fuel → a < l.length → (rd1 (l.drop a)).2.2 = true →
    (∀ i ∈ s, 0 ≤ i ∧ i < W.length) → s.length < 1048576 → Fn Try.prog 41 [ints W, ints C, ints s, ints l, I a] (I (rfw W C s (l.drop a))) := by
  intro fuel
  induction fuel with
  | zero => intro a s h1 h2; omega
  | succ fuel ih =>
    intro a s hf ha hok hs hsl
    have hcons := rd1_cons (l.getD a 0) (l.drop (a + 1))
    rw [← drop_cons ha] at hcons
    have hnb : ¬ (8 ≤ l.getD a 0 ∨ l.getD a 0 < -8) := fun hb => by rw [hcons, if_pos hb] at hok; cases hok
    rw [if_neg hnb] at hcons
    refine Fn.intro (fn := Try.f41) Try.call41 Try.func41 rfl mixed 15 [] [] [] (by kernel_rfl) (Nat.le_of_ble_eq_true rfl) (by simp [settled_ints, settled_I, settled_fn0, settled_intss, settled_bool, settled_tree, settled_nil]) (vc_soundN 1000 ?_); simp (config := { maxSteps := 2000000 }) only [AS.start, ↓wPre, wPost, List.getD_cons_succ, List.getD_cons_zero, List.set_cons_succ, List.set_cons_zero, List.map_cons, List.map_nil, List.all_cons, List.all_nil, List.length_cons, List.length_nil, List.cons_append, List.nil_append, List.append_nil, List.getElem?_cons_succ, List.getElem?_cons_zero, List.replicate_succ, List.replicate_zero, List.contains_cons, List.contains_nil, List.elem_cons, List.elem_nil, Nat.zero_add, Nat.add_zero, Nat.zero_lt_succ, Int.toNat_zero, Nat.min_self, Nat.zero_min, Nat.min_zero, Nat.sub_zero, Nat.zero_mul, Int.le_refl, Nat.le_refl, Option.getD_none, Option.getD_some, Int.toNat_one, Nat.lt_irrefl, Nat.mul_one, Bool.false_eq_true, Bool.true_eq_false, decide_true, decide_false, decide_eq_true_eq, decide_eq_false_iff_not, Bool.not_true, Bool.not_false, Bool.not_eq_true', Bool.not_eq_false', Bool.and_true, Bool.true_and, Bool.false_and, beq_self_eq_true, ite_true, ite_false, Option.map_some, Option.map_none, Option.isSome_some, true_and, and_true, false_and, and_false, not_true_eq_false, not_false_eq_true, false_implies, true_implies, implies_true, eq_self, ne_eq, or_true, true_or, or_false, false_or, Bool.or_false, Bool.or_true, Bool.false_or, Bool.true_or, Int.toNat_natCast, Int.natCast_nonneg, Int.ofNat_lt, Int.ofNat_le, Int.ofNat_inj, Int.ofNat_zero, ↓reduceIte, reduceIte, replT, filtT, countL, cls, look, aload, astore, aindex, afieldA, afield, aidx, apart, aslice, ibound, acap, azapp, abuildS, abuild, aFill, setL, zrep, asrc, aappend, aconv, alen, amake, amkmap, alookup, aupdate, aalloc, abox, newO, place, rd, Nat.reducePow, AV.isPtr, Nat.reduceLT, Nat.reduceLeDiff, Nat.reduceEqDiff, Nat.reduceAdd, Nat.reduceMul, Nat.reduceSub, Nat.reduceBEq, updL, cellsFrom, reduceCtorEq, ints, bools, intss, sl1, wFacts]
    have w1 := wj a (by omega)
    have w2 : IntKind.i64.wrap (-1 - l.getD a 0) = -1 - l.getD a 0 := by rw [IntKind.wrap_i64]; omega
    simp only [w1, w2, ↓wPre, wPost, List.getD_cons_succ, List.getD_cons_zero, List.set_cons_succ, List.set_cons_zero, List.map_cons, List.map_nil, List.all_cons, List.all_nil, List.length_cons, List.length_nil, List.cons_append, List.nil_append, List.append_nil, List.getElem?_cons_succ, List.getElem?_cons_zero, List.replicate_succ, List.replicate_zero, List.contains_cons, List.contains_nil, List.elem_cons, List.elem_nil, Nat.zero_add, Nat.add_zero, Nat.zero_lt_succ, Int.toNat_zero, Nat.min_self, Nat.zero_min, Nat.min_zero, Nat.sub_zero, Nat.zero_mul, Int.le_refl, Nat.le_refl, Option.getD_none, Option.getD_some, Int.toNat_one, Nat.lt_irrefl, Nat.mul_one, Bool.false_eq_true, Bool.true_eq_false, decide_true, decide_false, decide_eq_true_eq, decide_eq_false_iff_not, Bool.not_true, Bool.not_false, Bool.not_eq_true', Bool.not_eq_false', Bool.and_true, Bool.true_and, Bool.false_and, beq_self_eq_true, ite_true, ite_false, Option.map_some, Option.map_none, Option.isSome_some, true_and, and_true, false_and, and_false, not_true_eq_false, not_false_eq_true, false_implies, true_implies, implies_true, eq_self, ne_eq, or_true, true_or, or_false, false_or, Bool.or_false, Bool.or_true, Bool.false_or, Bool.true_or, Int.toNat_natCast, Int.natCast_nonneg, Int.ofNat_lt, Int.ofNat_le, Int.ofNat_inj, Int.ofNat_zero, ↓reduceIte, reduceIte, replT, filtT, countL, cls, look, aload, astore, aindex, afieldA, afield, aidx, apart, aslice, ibound, acap, azapp, abuildS, abuild, aFill, setL, zrep, asrc, aappend, aconv, alen, amake, amkmap, alookup, aupdate, aalloc, abox, newO, place, rd, Nat.reducePow, AV.isPtr, Nat.reduceLT, Nat.reduceLeDiff, Nat.reduceEqDiff, Nat.reduceAdd, Nat.reduceMul, Nat.reduceSub, Nat.reduceBEq, updL, cellsFrom, reduceCtorEq, ints, bools, intss, sl1, wFacts]
    have ret : ∀ {x : Int} {st : AS}, rfw W C s (l.drop a) = x → st.get 10 = I x → RetOk (envP Try.prog Try.f41 [] [] (I (rfw W C s (l.drop a)))) st := by
      rintro x st e h
      rw [e]
      exact ret1E rfl h (settled_I _) rfl
    refine ⟨fun h0 => ret ?_ rfl, fun h0 => ⟨ha, ha, fun hneg => ⟨fun h1 => ⟨by omega, by omega, ha, ha, fun he => ret ?_ rfl, fun he => ret ?_ rfl⟩, fun h1 => ret ?_ rfl⟩, fun hpos => ⟨ha, ha, fun hbig => ret ?_ rfl, fun hsm => ⟨ha, ha, ?_⟩⟩⟩⟩
    · have : s.length = 0 := by omega
      unfold rfw
      cases (rd1 (l.drop a)).1 <;> simp [flw, this]
    · unfold rfw
      rw [hcons, if_pos hneg]
      simp only [flw]
      rw [if_neg (by omega), if_pos trivial, if_pos ⟨trivial, trivial, by omega, he⟩]; rfl
    · unfold rfw
      rw [hcons, if_pos hneg]
      simp only [flw]
      rw [if_neg (by omega), if_pos trivial, if_neg (fun hh => he hh.2.2.2)]; rfl
    · unfold rfw
      rw [hcons, if_pos hneg]
      simp only [flw]
      rw [if_neg (by omega), if_pos trivial, if_neg (fun hh => h1 (by omega))]; rfl
    · unfold rfw
      rw [hcons, if_neg hpos]
      split
      · rfl
      · simp only [flw]
        rw [if_neg (by omega), if_neg (by omega), if_pos (.inr (.inl hbig))]; rfl
    have hok1 : (rd1 (l.drop (a + 1))).2.2 = true := by
      cases hq : (rd1 (l.drop (a + 1))).2.2 with
      | true => rfl
      | false => rw [hcons, if_neg hpos, if_pos hq] at hok; cases hok
    rw [if_neg hpos, if_neg (by rw [hok1]; simp)] at hcons
    have hok2 : (rd1 (rd1 (l.drop (a + 1))).2.1).2.2 = true := by rw [hcons] at hok; exact hok
    have ha1 : a + 1 < l.length := by
      rcases Nat.lt_or_ge (a + 1) l.length with h | h
      · exact h
      · rw [List.drop_eq_nil_of_le h] at hok1; cases hok1
    obtain ⟨r1, r2, r3, r4⟩ := rd1_rest hok1 (by omega)
    have he2 : l.length - (rd1 (l.drop (a + 1))).2.1.length < l.length := by
      rcases Nat.lt_or_ge (l.length - (rd1 (l.drop (a + 1))).2.1.length) l.length with h | h
      · exact h
      · have : (rd1 (l.drop (a + 1))).2.1.length = 0 := by omega
        rw [List.length_eq_zero_iff.1 this] at hok2; cases hok2
    have ih1 := ih (a + 1) (side W s (l.getD a 0) false) (by omega) ha1 hok1 (fun i hi => hs i (side_mem hi)) (Nat.lt_of_le_of_lt (side_le _ _ _ _) hsl)
    have ih2 := ih (l.length - (rd1 (l.drop (a + 1))).2.1.length) (side W s (l.getD a 0) true) (by omega) he2 (by rw [← r2]; exact hok2) (fun i hi => hs i (side_mem hi)) (Nat.lt_of_le_of_lt (side_le _ _ _ _) hsl)
    have hend := end_fn l hl l.length (a + 1) (by omega) (by omega)
    rw [r1] at hend
    rw [← r2] at ih2
    have hroot : rfw W C s (l.drop a) = match flw W C (side W s (l.getD a 0) false) (rd1 (l.drop (a + 1))).1, flw W C (side W s (l.getD a 0) true) (rd1 (rd1 (l.drop (a + 1))).2.1).1 with
        | some x, some z => C.getD (l.getD a 0).toNat 0 + max x z
        | _, _ => -1 := by
      unfold rfw
      rw [hcons]
      simp only [flw]
      rw [if_neg (by omega), if_neg (by omega), if_neg (by omega)]
      cases flw W C (side W s (l.getD a 0) false) (rd1 (l.drop (a + 1))).1 <;> cases flw W C (side W s (l.getD a 0) true) (rd1 (rd1 (l.drop (a + 1))).2.1).1 <;> rfl
    refine call_fn (sides_fn W s (l.getD a 0) (by omega) hs hsl) rfl ?_
    simp only [w1, ↓wPre, wPost, List.getD_cons_succ, List.getD_cons_zero, List.set_cons_succ, List.set_cons_zero, List.map_cons, List.map_nil, List.all_cons, List.all_nil, List.length_cons, List.length_nil, List.cons_append, List.nil_append, List.append_nil, List.getElem?_cons_succ, List.getElem?_cons_zero, List.replicate_succ, List.replicate_zero, List.contains_cons, List.contains_nil, List.elem_cons, List.elem_nil, Nat.zero_add, Nat.add_zero, Nat.zero_lt_succ, Int.toNat_zero, Nat.min_self, Nat.zero_min, Nat.min_zero, Nat.sub_zero, Nat.zero_mul, Int.le_refl, Nat.le_refl, Option.getD_none, Option.getD_some, Int.toNat_one, Nat.lt_irrefl, Nat.mul_one, Bool.false_eq_true, Bool.true_eq_false, decide_true, decide_false, decide_eq_true_eq, decide_eq_false_iff_not, Bool.not_true, Bool.not_false, Bool.not_eq_true', Bool.not_eq_false', Bool.and_true, Bool.true_and, Bool.false_and, beq_self_eq_true, ite_true, ite_false, Option.map_some, Option.map_none, Option.isSome_some, true_and, and_true, false_and, and_false, not_true_eq_false, not_false_eq_true, false_implies, true_implies, implies_true, eq_self, ne_eq, or_true, true_or, or_false, false_or, Bool.or_false, Bool.or_true, Bool.false_or, Bool.true_or, Int.toNat_natCast, Int.natCast_nonneg, Int.ofNat_lt, Int.ofNat_le, Int.ofNat_inj, Int.ofNat_zero, ↓reduceIte, reduceIte, replT, filtT, countL, cls, look, aload, astore, aindex, afieldA, afield, aidx, apart, aslice, ibound, acap, azapp, abuildS, abuild, aFill, setL, zrep, asrc, aappend, aconv, alen, amake, amkmap, alookup, aupdate, aalloc, abox, newO, place, rd, Nat.reducePow, AV.isPtr, Nat.reduceLT, Nat.reduceLeDiff, Nat.reduceEqDiff, Nat.reduceAdd, Nat.reduceMul, Nat.reduceSub, Nat.reduceBEq, updL, cellsFrom, reduceCtorEq, ints, bools, intss, sl1, wFacts]
    refine call_fn ih1 rfl ?_
    simp only [w1, ↓wPre, wPost, List.getD_cons_succ, List.getD_cons_zero, List.set_cons_succ, List.set_cons_zero, List.map_cons, List.map_nil, List.all_cons, List.all_nil, List.length_cons, List.length_nil, List.cons_append, List.nil_append, List.append_nil, List.getElem?_cons_succ, List.getElem?_cons_zero, List.replicate_succ, List.replicate_zero, List.contains_cons, List.contains_nil, List.elem_cons, List.elem_nil, Nat.zero_add, Nat.add_zero, Nat.zero_lt_succ, Int.toNat_zero, Nat.min_self, Nat.zero_min, Nat.min_zero, Nat.sub_zero, Nat.zero_mul, Int.le_refl, Nat.le_refl, Option.getD_none, Option.getD_some, Int.toNat_one, Nat.lt_irrefl, Nat.mul_one, Bool.false_eq_true, Bool.true_eq_false, decide_true, decide_false, decide_eq_true_eq, decide_eq_false_iff_not, Bool.not_true, Bool.not_false, Bool.not_eq_true', Bool.not_eq_false', Bool.and_true, Bool.true_and, Bool.false_and, beq_self_eq_true, ite_true, ite_false, Option.map_some, Option.map_none, Option.isSome_some, true_and, and_true, false_and, and_false, not_true_eq_false, not_false_eq_true, false_implies, true_implies, implies_true, eq_self, ne_eq, or_true, true_or, or_false, false_or, Bool.or_false, Bool.or_true, Bool.false_or, Bool.true_or, Int.toNat_natCast, Int.natCast_nonneg, Int.ofNat_lt, Int.ofNat_le, Int.ofNat_inj, Int.ofNat_zero, ↓reduceIte, reduceIte, replT, filtT, countL, cls, look, aload, astore, aindex, afieldA, afield, aidx, apart, aslice, ibound, acap, azapp, abuildS, abuild, aFill, setL, zrep, asrc, aappend, aconv, alen, amake, amkmap, alookup, aupdate, aalloc, abox, newO, place, rd, Nat.reducePow, AV.isPtr, Nat.reduceLT, Nat.reduceLeDiff, Nat.reduceEqDiff, Nat.reduceAdd, Nat.reduceMul, Nat.reduceSub, Nat.reduceBEq, updL, cellsFrom, reduceCtorEq, ints, bools, intss, sl1, wFacts]
    refine call_fn hend rfl ?_
    simp only [w1, ↓wPre, wPost, List.getD_cons_succ, List.getD_cons_zero, List.set_cons_succ, List.set_cons_zero, List.map_cons, List.map_nil, List.all_cons, List.all_nil, List.length_cons, List.length_nil, List.cons_append, List.nil_append, List.append_nil, List.getElem?_cons_succ, List.getElem?_cons_zero, List.replicate_succ, List.replicate_zero, List.contains_cons, List.contains_nil, List.elem_cons, List.elem_nil, Nat.zero_add, Nat.add_zero, Nat.zero_lt_succ, Int.toNat_zero, Nat.min_self, Nat.zero_min, Nat.min_zero, Nat.sub_zero, Nat.zero_mul, Int.le_refl, Nat.le_refl, Option.getD_none, Option.getD_some, Int.toNat_one, Nat.lt_irrefl, Nat.mul_one, Bool.false_eq_true, Bool.true_eq_false, decide_true, decide_false, decide_eq_true_eq, decide_eq_false_iff_not, Bool.not_true, Bool.not_false, Bool.not_eq_true', Bool.not_eq_false', Bool.and_true, Bool.true_and, Bool.false_and, beq_self_eq_true, ite_true, ite_false, Option.map_some, Option.map_none, Option.isSome_some, true_and, and_true, false_and, and_false, not_true_eq_false, not_false_eq_true, false_implies, true_implies, implies_true, eq_self, ne_eq, or_true, true_or, or_false, false_or, Bool.or_false, Bool.or_true, Bool.false_or, Bool.true_or, Int.toNat_natCast, Int.natCast_nonneg, Int.ofNat_lt, Int.ofNat_le, Int.ofNat_inj, Int.ofNat_zero, ↓reduceIte, reduceIte, replT, filtT, countL, cls, look, aload, astore, aindex, afieldA, afield, aidx, apart, aslice, ibound, acap, azapp, abuildS, abuild, aFill, setL, zrep, asrc, aappend, aconv, alen, amake, amkmap, alookup, aupdate, aalloc, abox, newO, place, rd, Nat.reducePow, AV.isPtr, Nat.reduceLT, Nat.reduceLeDiff, Nat.reduceEqDiff, Nat.reduceAdd, Nat.reduceMul, Nat.reduceSub, Nat.reduceBEq, updL, cellsFrom, reduceCtorEq, ints, bools, intss, sl1, wFacts]
    refine call_fn ih2 rfl ?_
    simp only [w1, ↓wPre, wPost, List.getD_cons_succ, List.getD_cons_zero, List.set_cons_succ, List.set_cons_zero, List.map_cons, List.map_nil, List.all_cons, List.all_nil, List.length_cons, List.length_nil, List.cons_append, List.nil_append, List.append_nil, List.getElem?_cons_succ, List.getElem?_cons_zero, List.replicate_succ, List.replicate_zero, List.contains_cons, List.contains_nil, List.elem_cons, List.elem_nil, Nat.zero_add, Nat.add_zero, Nat.zero_lt_succ, Int.toNat_zero, Nat.min_self, Nat.zero_min, Nat.min_zero, Nat.sub_zero, Nat.zero_mul, Int.le_refl, Nat.le_refl, Option.getD_none, Option.getD_some, Int.toNat_one, Nat.lt_irrefl, Nat.mul_one, Bool.false_eq_true, Bool.true_eq_false, decide_true, decide_false, decide_eq_true_eq, decide_eq_false_iff_not, Bool.not_true, Bool.not_false, Bool.not_eq_true', Bool.not_eq_false', Bool.and_true, Bool.true_and, Bool.false_and, beq_self_eq_true, ite_true, ite_false, Option.map_some, Option.map_none, Option.isSome_some, true_and, and_true, false_and, and_false, not_true_eq_false, not_false_eq_true, false_implies, true_implies, implies_true, eq_self, ne_eq, or_true, true_or, or_false, false_or, Bool.or_false, Bool.or_true, Bool.false_or, Bool.true_or, Int.toNat_natCast, Int.natCast_nonneg, Int.ofNat_lt, Int.ofNat_le, Int.ofNat_inj, Int.ofNat_zero, ↓reduceIte, reduceIte, replT, filtT, countL, cls, look, aload, astore, aindex, afieldA, afield, aidx, apart, aslice, ibound, acap, azapp, abuildS, abuild, aFill, setL, zrep, asrc, aappend, aconv, alen, amake, amkmap, alookup, aupdate, aalloc, abox, newO, place, rd, Nat.reducePow, AV.isPtr, Nat.reduceLT, Nat.reduceLeDiff, Nat.reduceEqDiff, Nat.reduceAdd, Nat.reduceMul, Nat.reduceSub, Nat.reduceBEq, updL, cellsFrom, reduceCtorEq, ints, bools, intss, sl1, wFacts]
    have hN := rfw_neg W C hc (side W s (l.getD a 0) false) (l.drop (a + 1))
    have hY := rfw_neg W C hc (side W s (l.getD a 0) true) (rd1 (l.drop (a + 1))).2.1
    have hs1 := side_le W s (l.getD a 0) false
    have hs2 := side_le W s (l.getD a 0) true
    refine ⟨fun hx => ?_, fun hx => ⟨fun hy => ?_, fun hy => ⟨ha, ha, by omega, by omega, ?_⟩⟩⟩
    · rcases hN with ⟨e1, _⟩ | ⟨x, e1, e2, _⟩
      · exact ret (by rw [hroot, e1]) rfl
      · omega
    · rcases hN with ⟨e1, _⟩ | ⟨x, e1, e2, _⟩
      · exact ret (by rw [hroot, e1]) rfl
      · rcases hY with ⟨e3, _⟩ | ⟨z, e3, e4, _⟩
        · exact ret (by rw [hroot, e1, e3]) rfl
        · omega
    · rcases hN with ⟨e1, e2⟩ | ⟨x, e1, e2, b1, b2⟩
      · omega
      rcases hY with ⟨e3, e4⟩ | ⟨z, e3, e4, b3, b4⟩
      · omega
      have hg : ¬ (C.getD (l.getD a 0).toNat 0 < 1 ∨ 1024 < C.getD (l.getD a 0).toNat 0) := fun hb => hc (anyBad_mem _ (by omega) hb)
      have hm : (if x < z then z else x) = max x z := by omega
      have hw : IntKind.i64.wrap (C.getD (l.getD a 0).toNat 0 + max x z) = C.getD (l.getD a 0).toNat 0 + max x z := by rw [IntKind.wrap_i64]; omega
      rw [e2, e4, hm, hw]
      exact ret (by rw [hroot, e1, e3]) rfl

/-! ### Check -/
def checkF (W C : List Int) (t : Tr) : Int × Int := if properF W C ≠ 0 then (0, properF W C) else match flw W C (allI W.length) t with
  | some c => (c, 0)
  | none => (0, 22)
theorem check_fn (W C : List Int) (t : Tr) (hW : W.length < 1048576) (hC : C.length < 1048576) : Fn Try.prog 24 [ints W, ints C, treeA t] (.tup [I (checkF W C t).1, I (checkF W C t).2]) := by
  refine Fn.intro (fn := Try.f24) Try.call24 Try.func24 rfl mixed 13 [19, 20, 21] [] [] (by kernel_rfl) (Nat.le_of_ble_eq_true rfl) (by simp [settled_ints, settled_I, settled_fn0, settled_intss, settled_bool, settled_tree, settled_nil]) (vc_soundN 1000 ?_); simp (config := { maxSteps := 2000000 }) only [AS.start, ↓wPre, wPost, List.getD_cons_succ, List.getD_cons_zero, List.set_cons_succ, List.set_cons_zero, List.map_cons, List.map_nil, List.all_cons, List.all_nil, List.length_cons, List.length_nil, List.cons_append, List.nil_append, List.append_nil, List.getElem?_cons_succ, List.getElem?_cons_zero, List.replicate_succ, List.replicate_zero, List.contains_cons, List.contains_nil, List.elem_cons, List.elem_nil, Nat.zero_add, Nat.add_zero, Nat.zero_lt_succ, Int.toNat_zero, Nat.min_self, Nat.zero_min, Nat.min_zero, Nat.sub_zero, Nat.zero_mul, Int.le_refl, Nat.le_refl, Option.getD_none, Option.getD_some, Int.toNat_one, Nat.lt_irrefl, Nat.mul_one, Bool.false_eq_true, Bool.true_eq_false, decide_true, decide_false, decide_eq_true_eq, decide_eq_false_iff_not, Bool.not_true, Bool.not_false, Bool.not_eq_true', Bool.not_eq_false', Bool.and_true, Bool.true_and, Bool.false_and, beq_self_eq_true, ite_true, ite_false, Option.map_some, Option.map_none, Option.isSome_some, true_and, and_true, false_and, and_false, not_true_eq_false, not_false_eq_true, false_implies, true_implies, implies_true, eq_self, ne_eq, or_true, true_or, or_false, false_or, Bool.or_false, Bool.or_true, Bool.false_or, Bool.true_or, Int.toNat_natCast, Int.natCast_nonneg, Int.ofNat_lt, Int.ofNat_le, Int.ofNat_inj, Int.ofNat_zero, ↓reduceIte, reduceIte, replT, filtT, countL, cls, look, aload, astore, aindex, afieldA, afield, aidx, apart, aslice, ibound, acap, azapp, abuildS, abuild, aFill, setL, zrep, asrc, aappend, aconv, alen, amake, amkmap, alookup, aupdate, aalloc, abox, newO, place, rd, Nat.reducePow, AV.isPtr, Nat.reduceLT, Nat.reduceLeDiff, Nat.reduceEqDiff, Nat.reduceAdd, Nat.reduceMul, Nat.reduceSub, Nat.reduceBEq, updL, cellsFrom, reduceCtorEq, ints, bools, intss, sl1, wFacts]
  have ret : ∀ {x : Int × Int} {st : AS}, checkF W C t = x → st.get 6 = I x.1 → st.get 7 = I x.2 → RetOk (envP Try.prog Try.f24 [] [] (.tup [I (checkF W C t).1, I (checkF W C t).2])) st := by
    rintro x st e h1 h2
    rw [e]
    exact ret2E rfl h1 h2 (settled_I _) (settled_I _) rfl rfl
  refine call_fn (proper_fn W C hW hC) rfl ?_
  simp only [↓wPre, wPost, List.getD_cons_succ, List.getD_cons_zero, List.set_cons_succ, List.set_cons_zero, List.map_cons, List.map_nil, List.all_cons, List.all_nil, List.length_cons, List.length_nil, List.cons_append, List.nil_append, List.append_nil, List.getElem?_cons_succ, List.getElem?_cons_zero, List.replicate_succ, List.replicate_zero, List.contains_cons, List.contains_nil, List.elem_cons, List.elem_nil, Nat.zero_add, Nat.add_zero, Nat.zero_lt_succ, Int.toNat_zero, Nat.min_self, Nat.zero_min, Nat.min_zero, Nat.sub_zero, Nat.zero_mul, Int.le_refl, Nat.le_refl, Option.getD_none, Option.getD_some, Int.toNat_one, Nat.lt_irrefl, Nat.mul_one, Bool.false_eq_true, Bool.true_eq_false, decide_true, decide_false, decide_eq_true_eq, decide_eq_false_iff_not, Bool.not_true, Bool.not_false, Bool.not_eq_true', Bool.not_eq_false', Bool.and_true, Bool.true_and, Bool.false_and, beq_self_eq_true, ite_true, ite_false, Option.map_some, Option.map_none, Option.isSome_some, true_and, and_true, false_and, and_false, not_true_eq_false, not_false_eq_true, false_implies, true_implies, implies_true, eq_self, ne_eq, or_true, true_or, or_false, false_or, Bool.or_false, Bool.or_true, Bool.false_or, Bool.true_or, Int.toNat_natCast, Int.natCast_nonneg, Int.ofNat_lt, Int.ofNat_le, Int.ofNat_inj, Int.ofNat_zero, ↓reduceIte, reduceIte, replT, filtT, countL, cls, look, aload, astore, aindex, afieldA, afield, aidx, apart, aslice, ibound, acap, azapp, abuildS, abuild, aFill, setL, zrep, asrc, aappend, aconv, alen, amake, amkmap, alookup, aupdate, aalloc, abox, newO, place, rd, Nat.reducePow, AV.isPtr, Nat.reduceLT, Nat.reduceLeDiff, Nat.reduceEqDiff, Nat.reduceAdd, Nat.reduceMul, Nat.reduceSub, Nat.reduceBEq, updL, cellsFrom, reduceCtorEq, ints, bools, intss, sl1, wFacts]
  refine ⟨fun h => ret (x := (0, properF W C)) (if_pos h) rfl rfl, fun hp => ?_⟩
  have hcr : checkF W C t = match flw W C (allI W.length) t with
    | some c => (c, 0)
    | none => (0, 22) := if_neg (by simpa using hp)
  obtain ⟨hsz, hwo, hcb⟩ := proper_size hp
  refine run_loop (fun j : Nat => ⟨13, [19, 20, 21], [ints W, ints C, treeA t, .any, .any, .any, .any, .any, .any, .osl 0 j 1 0 j, .any, .any, .any], [(19, ints W), (20, I W.length), (21, I j)], [.row j j (slF I 0 (allI j))]⟩) (fun j => j ≤ W.length) (fun j => W.length - j) 0 (by omega)
    ((sub_adopt 9 1 (slF I 0 []) rfl).trans (sub_mk rfl ?_ ?_ ?_)) ?_
  · simp [subL, AS.put, ints, sl1, I]
  · simp [subT, AS.put, look, ints, sl1, I]
  · simp [AS.put, allI]
  intro j hj next
  have w1 := wj j (by omega)
  have e := appF_I (allI j) (j : Int)
  rw [allI_len, ← allI_succ] at e
  refine vc_soundN 1000 ?_
  simp only [w1, e, ↓wPre, wPost, List.getD_cons_succ, List.getD_cons_zero, List.set_cons_succ, List.set_cons_zero, List.map_cons, List.map_nil, List.all_cons, List.all_nil, List.length_cons, List.length_nil, List.cons_append, List.nil_append, List.append_nil, List.getElem?_cons_succ, List.getElem?_cons_zero, List.replicate_succ, List.replicate_zero, List.contains_cons, List.contains_nil, List.elem_cons, List.elem_nil, Nat.zero_add, Nat.add_zero, Nat.zero_lt_succ, Int.toNat_zero, Nat.min_self, Nat.zero_min, Nat.min_zero, Nat.sub_zero, Nat.zero_mul, Int.le_refl, Nat.le_refl, Option.getD_none, Option.getD_some, Int.toNat_one, Nat.lt_irrefl, Nat.mul_one, Bool.false_eq_true, Bool.true_eq_false, decide_true, decide_false, decide_eq_true_eq, decide_eq_false_iff_not, Bool.not_true, Bool.not_false, Bool.not_eq_true', Bool.not_eq_false', Bool.and_true, Bool.true_and, Bool.false_and, beq_self_eq_true, ite_true, ite_false, Option.map_some, Option.map_none, Option.isSome_some, true_and, and_true, false_and, and_false, not_true_eq_false, not_false_eq_true, false_implies, true_implies, implies_true, eq_self, ne_eq, or_true, true_or, or_false, false_or, Bool.or_false, Bool.or_true, Bool.false_or, Bool.true_or, Int.toNat_natCast, Int.natCast_nonneg, Int.ofNat_lt, Int.ofNat_le, Int.ofNat_inj, Int.ofNat_zero, ↓reduceIte, reduceIte, replT, filtT, countL, cls, look, aload, astore, aindex, afieldA, afield, aidx, apart, aslice, ibound, acap, azapp, abuildS, abuild, aFill, setL, zrep, asrc, aappend, aconv, alen, amake, amkmap, alookup, aupdate, aalloc, abox, newO, place, rd, Nat.reducePow, AV.isPtr, Nat.reduceLT, Nat.reduceLeDiff, Nat.reduceEqDiff, Nat.reduceAdd, Nat.reduceMul, Nat.reduceSub, Nat.reduceBEq, updL, cellsFrom, reduceCtorEq, ints, bools, intss, sl1, wFacts]
  refine ⟨fun h => ⟨by omega, next (j + 1) _ (by omega) (by omega) (sub_mk rfl (by simp [subL, ints, sl1, I]) (by simp [subT, look, ints, sl1, I]) rfl)⟩, fun h => ?_⟩
  obtain rfl : j = W.length := by omega
  have flat : ∀ (c : Int) (b : Bool), Flat (.tup [I c, .bool b]) := fun c b => flat_tup (by simp [flat_int, flat_bool, I])
  have hfe := flw_eq W C hcb t (allI W.length) (by rw [allI_len]; exact hW)
  refine call_lent (follow_fn W C hW hC t (allI W.length) (fun i hi => allI_mem hi) (by rw [allI_len]; exact hW)) rfl ⟨(settled_ints _).sees _, (settled_ints _).sees _, sees_intsE rfl rfl (by rw [allI_len]) rfl (by rw [allI_len]; exact Nat.le_refl _), ?_, trivial⟩ (flat _ _) ?_
  · rw [loose_tree']; exact (settled_tree t).sees _
  simp only [↓wPre, wPost, List.getD_cons_succ, List.getD_cons_zero, List.set_cons_succ, List.set_cons_zero, List.map_cons, List.map_nil, List.all_cons, List.all_nil, List.length_cons, List.length_nil, List.cons_append, List.nil_append, List.append_nil, List.getElem?_cons_succ, List.getElem?_cons_zero, List.replicate_succ, List.replicate_zero, List.contains_cons, List.contains_nil, List.elem_cons, List.elem_nil, Nat.zero_add, Nat.add_zero, Nat.zero_lt_succ, Int.toNat_zero, Nat.min_self, Nat.zero_min, Nat.min_zero, Nat.sub_zero, Nat.zero_mul, Int.le_refl, Nat.le_refl, Option.getD_none, Option.getD_some, Int.toNat_one, Nat.lt_irrefl, Nat.mul_one, Bool.false_eq_true, Bool.true_eq_false, decide_true, decide_false, decide_eq_true_eq, decide_eq_false_iff_not, Bool.not_true, Bool.not_false, Bool.not_eq_true', Bool.not_eq_false', Bool.and_true, Bool.true_and, Bool.false_and, beq_self_eq_true, ite_true, ite_false, Option.map_some, Option.map_none, Option.isSome_some, true_and, and_true, false_and, and_false, not_true_eq_false, not_false_eq_true, false_implies, true_implies, implies_true, eq_self, ne_eq, or_true, true_or, or_false, false_or, Bool.or_false, Bool.or_true, Bool.false_or, Bool.true_or, Int.toNat_natCast, Int.natCast_nonneg, Int.ofNat_lt, Int.ofNat_le, Int.ofNat_inj, Int.ofNat_zero, ↓reduceIte, reduceIte, replT, filtT, countL, cls, look, aload, astore, aindex, afieldA, afield, aidx, apart, aslice, ibound, acap, azapp, abuildS, abuild, aFill, setL, zrep, asrc, aappend, aconv, alen, amake, amkmap, alookup, aupdate, aalloc, abox, newO, place, rd, Nat.reducePow, AV.isPtr, Nat.reduceLT, Nat.reduceLeDiff, Nat.reduceEqDiff, Nat.reduceAdd, Nat.reduceMul, Nat.reduceSub, Nat.reduceBEq, updL, cellsFrom, reduceCtorEq, ints, bools, intss, sl1, wFacts]
  cases e : flw W C (allI W.length) t with
  | none =>
    rw [e] at hfe hcr
    exact guardP_intron (fun _ => ret hcr rfl rfl) (fun hb => by rw [hfe.1] at hb; cases hb)
  | some c =>
    rw [e] at hfe hcr
    refine guardP_intron (fun hb => by rw [hfe.1] at hb; cases hb) (fun _ => ret hcr ?_ rfl)
    rw [hfe.2 c rfl]; rfl

theorem rcheck_fn (W C l : List Int) (hW : W.length < 1048576) (hC : C.length < 1048576) (hl : l.length < 1048576) : Fn Try.prog 25 [ints W, ints C, ints l]
    (.tup [I (if properF W C ≠ 0 then (0, properF W C) else if isF l = false then (0, 22) else checkF W C (rd1 l).1).1, I (if properF W C ≠ 0 then (0, properF W C) else if isF l = false then (0, 22) else checkF W C (rd1 l).1).2]) := by
  generalize hq : (if properF W C ≠ 0 then (0, properF W C) else if isF l = false then (0, 22) else checkF W C (rd1 l).1 : Int × Int) = q
  refine Fn.intro (fn := Try.f25) Try.call25 Try.func25 rfl mixed 10 [] [] [] (by kernel_rfl) (Nat.le_of_ble_eq_true rfl) (by simp [settled_ints, settled_I, settled_fn0, settled_intss, settled_bool, settled_tree, settled_nil]) (vc_soundN 1000 ?_); simp (config := { maxSteps := 2000000 }) only [AS.start, ↓wPre, wPost, List.getD_cons_succ, List.getD_cons_zero, List.set_cons_succ, List.set_cons_zero, List.map_cons, List.map_nil, List.all_cons, List.all_nil, List.length_cons, List.length_nil, List.cons_append, List.nil_append, List.append_nil, List.getElem?_cons_succ, List.getElem?_cons_zero, List.replicate_succ, List.replicate_zero, List.contains_cons, List.contains_nil, List.elem_cons, List.elem_nil, Nat.zero_add, Nat.add_zero, Nat.zero_lt_succ, Int.toNat_zero, Nat.min_self, Nat.zero_min, Nat.min_zero, Nat.sub_zero, Nat.zero_mul, Int.le_refl, Nat.le_refl, Option.getD_none, Option.getD_some, Int.toNat_one, Nat.lt_irrefl, Nat.mul_one, Bool.false_eq_true, Bool.true_eq_false, decide_true, decide_false, decide_eq_true_eq, decide_eq_false_iff_not, Bool.not_true, Bool.not_false, Bool.not_eq_true', Bool.not_eq_false', Bool.and_true, Bool.true_and, Bool.false_and, beq_self_eq_true, ite_true, ite_false, Option.map_some, Option.map_none, Option.isSome_some, true_and, and_true, false_and, and_false, not_true_eq_false, not_false_eq_true, false_implies, true_implies, implies_true, eq_self, ne_eq, or_true, true_or, or_false, false_or, Bool.or_false, Bool.or_true, Bool.false_or, Bool.true_or, Int.toNat_natCast, Int.natCast_nonneg, Int.ofNat_lt, Int.ofNat_le, Int.ofNat_inj, Int.ofNat_zero, ↓reduceIte, reduceIte, replT, filtT, countL, cls, look, aload, astore, aindex, afieldA, afield, aidx, apart, aslice, ibound, acap, azapp, abuildS, abuild, aFill, setL, zrep, asrc, aappend, aconv, alen, amake, amkmap, alookup, aupdate, aalloc, abox, newO, place, rd, Nat.reducePow, AV.isPtr, Nat.reduceLT, Nat.reduceLeDiff, Nat.reduceEqDiff, Nat.reduceAdd, Nat.reduceMul, Nat.reduceSub, Nat.reduceBEq, updL, cellsFrom, reduceCtorEq, ints, bools, intss, sl1, wFacts]
  have ret : ∀ {x : Int × Int} {st : AS}, q = x → st.get 6 = I x.1 → st.get 7 = I x.2 → RetOk (envP Try.prog Try.f25 [] [] (.tup [I q.1, I q.2])) st := by
    rintro x st e h1 h2
    rw [e]
    exact ret2E rfl h1 h2 (settled_I _) (settled_I _) rfl rfl
  refine call_fn (rproper_fn W C hW hC) rfl ?_
  simp only [↓wPre, wPost, List.getD_cons_succ, List.getD_cons_zero, List.set_cons_succ, List.set_cons_zero, List.map_cons, List.map_nil, List.all_cons, List.all_nil, List.length_cons, List.length_nil, List.cons_append, List.nil_append, List.append_nil, List.getElem?_cons_succ, List.getElem?_cons_zero, List.replicate_succ, List.replicate_zero, List.contains_cons, List.contains_nil, List.elem_cons, List.elem_nil, Nat.zero_add, Nat.add_zero, Nat.zero_lt_succ, Int.toNat_zero, Nat.min_self, Nat.zero_min, Nat.min_zero, Nat.sub_zero, Nat.zero_mul, Int.le_refl, Nat.le_refl, Option.getD_none, Option.getD_some, Int.toNat_one, Nat.lt_irrefl, Nat.mul_one, Bool.false_eq_true, Bool.true_eq_false, decide_true, decide_false, decide_eq_true_eq, decide_eq_false_iff_not, Bool.not_true, Bool.not_false, Bool.not_eq_true', Bool.not_eq_false', Bool.and_true, Bool.true_and, Bool.false_and, beq_self_eq_true, ite_true, ite_false, Option.map_some, Option.map_none, Option.isSome_some, true_and, and_true, false_and, and_false, not_true_eq_false, not_false_eq_true, false_implies, true_implies, implies_true, eq_self, ne_eq, or_true, true_or, or_false, false_or, Bool.or_false, Bool.or_true, Bool.false_or, Bool.true_or, Int.toNat_natCast, Int.natCast_nonneg, Int.ofNat_lt, Int.ofNat_le, Int.ofNat_inj, Int.ofNat_zero, ↓reduceIte, reduceIte, replT, filtT, countL, cls, look, aload, astore, aindex, afieldA, afield, aidx, apart, aslice, ibound, acap, azapp, abuildS, abuild, aFill, setL, zrep, asrc, aappend, aconv, alen, amake, amkmap, alookup, aupdate, aalloc, abox, newO, place, rd, Nat.reducePow, AV.isPtr, Nat.reduceLT, Nat.reduceLeDiff, Nat.reduceEqDiff, Nat.reduceAdd, Nat.reduceMul, Nat.reduceSub, Nat.reduceBEq, updL, cellsFrom, reduceCtorEq, ints, bools, intss, sl1, wFacts]
  refine ⟨fun h => ret (x := (0, properF W C)) (by rw [← hq, if_pos h]) rfl rfl, fun hp => ?_⟩
  rw [if_neg (by simpa using hp)] at hq
  obtain ⟨hsz, hwo, hcb⟩ := proper_size hp
  refine call_fn (is_fn l hl) rfl ?_
  simp only [↓wPre, wPost, List.getD_cons_succ, List.getD_cons_zero, List.set_cons_succ, List.set_cons_zero, List.map_cons, List.map_nil, List.all_cons, List.all_nil, List.length_cons, List.length_nil, List.cons_append, List.nil_append, List.append_nil, List.getElem?_cons_succ, List.getElem?_cons_zero, List.replicate_succ, List.replicate_zero, List.contains_cons, List.contains_nil, List.elem_cons, List.elem_nil, Nat.zero_add, Nat.add_zero, Nat.zero_lt_succ, Int.toNat_zero, Nat.min_self, Nat.zero_min, Nat.min_zero, Nat.sub_zero, Nat.zero_mul, Int.le_refl, Nat.le_refl, Option.getD_none, Option.getD_some, Int.toNat_one, Nat.lt_irrefl, Nat.mul_one, Bool.false_eq_true, Bool.true_eq_false, decide_true, decide_false, decide_eq_true_eq, decide_eq_false_iff_not, Bool.not_true, Bool.not_false, Bool.not_eq_true', Bool.not_eq_false', Bool.and_true, Bool.true_and, Bool.false_and, beq_self_eq_true, ite_true, ite_false, Option.map_some, Option.map_none, Option.isSome_some, true_and, and_true, false_and, and_false, not_true_eq_false, not_false_eq_true, false_implies, true_implies, implies_true, eq_self, ne_eq, or_true, true_or, or_false, false_or, Bool.or_false, Bool.or_true, Bool.false_or, Bool.true_or, Int.toNat_natCast, Int.natCast_nonneg, Int.ofNat_lt, Int.ofNat_le, Int.ofNat_inj, Int.ofNat_zero, ↓reduceIte, reduceIte, replT, filtT, countL, cls, look, aload, astore, aindex, afieldA, afield, aidx, apart, aslice, ibound, acap, azapp, abuildS, abuild, aFill, setL, zrep, asrc, aappend, aconv, alen, amake, amkmap, alookup, aupdate, aalloc, abox, newO, place, rd, Nat.reducePow, AV.isPtr, Nat.reduceLT, Nat.reduceLeDiff, Nat.reduceEqDiff, Nat.reduceAdd, Nat.reduceMul, Nat.reduceSub, Nat.reduceBEq, updL, cellsFrom, reduceCtorEq, ints, bools, intss, sl1, wFacts]
  refine guardP_intron (fun hb => ret (x := (0, 22)) (by rw [← hq, if_pos hb]) rfl rfl) (fun hb => ?_)
  rw [if_neg (by rw [hb]; simp)] at hq
  have hcr : checkF W C (rd1 l).1 = match flw W C (allI W.length) (rd1 l).1 with
    | some c => (c, 0)
    | none => (0, 22) := if_neg (by simpa using hp)
  rw [hcr] at hq
  refine call_fn (all_fn W hW) rfl ?_
  simp only [↓wPre, wPost, List.getD_cons_succ, List.getD_cons_zero, List.set_cons_succ, List.set_cons_zero, List.map_cons, List.map_nil, List.all_cons, List.all_nil, List.length_cons, List.length_nil, List.cons_append, List.nil_append, List.append_nil, List.getElem?_cons_succ, List.getElem?_cons_zero, List.replicate_succ, List.replicate_zero, List.contains_cons, List.contains_nil, List.elem_cons, List.elem_nil, Nat.zero_add, Nat.add_zero, Nat.zero_lt_succ, Int.toNat_zero, Nat.min_self, Nat.zero_min, Nat.min_zero, Nat.sub_zero, Nat.zero_mul, Int.le_refl, Nat.le_refl, Option.getD_none, Option.getD_some, Int.toNat_one, Nat.lt_irrefl, Nat.mul_one, Bool.false_eq_true, Bool.true_eq_false, decide_true, decide_false, decide_eq_true_eq, decide_eq_false_iff_not, Bool.not_true, Bool.not_false, Bool.not_eq_true', Bool.not_eq_false', Bool.and_true, Bool.true_and, Bool.false_and, beq_self_eq_true, ite_true, ite_false, Option.map_some, Option.map_none, Option.isSome_some, true_and, and_true, false_and, and_false, not_true_eq_false, not_false_eq_true, false_implies, true_implies, implies_true, eq_self, ne_eq, or_true, true_or, or_false, false_or, Bool.or_false, Bool.or_true, Bool.false_or, Bool.true_or, Int.toNat_natCast, Int.natCast_nonneg, Int.ofNat_lt, Int.ofNat_le, Int.ofNat_inj, Int.ofNat_zero, ↓reduceIte, reduceIte, replT, filtT, countL, cls, look, aload, astore, aindex, afieldA, afield, aidx, apart, aslice, ibound, acap, azapp, abuildS, abuild, aFill, setL, zrep, asrc, aappend, aconv, alen, amake, amkmap, alookup, aupdate, aalloc, abox, newO, place, rd, Nat.reducePow, AV.isPtr, Nat.reduceLT, Nat.reduceLeDiff, Nat.reduceEqDiff, Nat.reduceAdd, Nat.reduceMul, Nat.reduceSub, Nat.reduceBEq, updL, cellsFrom, reduceCtorEq, ints, bools, intss, sl1, wFacts]
  have hok : (rd1 l).2.2 = true := by
    unfold isF at hb
    simp only [Bool.and_eq_true] at hb
    exact hb.1
  have hl0 : 0 < l.length := by
    rcases Nat.eq_zero_or_pos l.length with h | h
    · rw [List.length_eq_zero_iff.1 h] at hok; cases hok
    · exact h
  have hfw := rfollow_fn W C l hW hC hl hcb l.length 0 (allI W.length) (by omega) hl0 (by rw [List.drop_zero]; exact hok) (fun i hi => allI_mem hi) (by rw [allI_len]; exact hW)
  rw [List.drop_zero] at hfw
  refine call_fn hfw rfl ?_
  simp only [↓wPre, wPost, List.getD_cons_succ, List.getD_cons_zero, List.set_cons_succ, List.set_cons_zero, List.map_cons, List.map_nil, List.all_cons, List.all_nil, List.length_cons, List.length_nil, List.cons_append, List.nil_append, List.append_nil, List.getElem?_cons_succ, List.getElem?_cons_zero, List.replicate_succ, List.replicate_zero, List.contains_cons, List.contains_nil, List.elem_cons, List.elem_nil, Nat.zero_add, Nat.add_zero, Nat.zero_lt_succ, Int.toNat_zero, Nat.min_self, Nat.zero_min, Nat.min_zero, Nat.sub_zero, Nat.zero_mul, Int.le_refl, Nat.le_refl, Option.getD_none, Option.getD_some, Int.toNat_one, Nat.lt_irrefl, Nat.mul_one, Bool.false_eq_true, Bool.true_eq_false, decide_true, decide_false, decide_eq_true_eq, decide_eq_false_iff_not, Bool.not_true, Bool.not_false, Bool.not_eq_true', Bool.not_eq_false', Bool.and_true, Bool.true_and, Bool.false_and, beq_self_eq_true, ite_true, ite_false, Option.map_some, Option.map_none, Option.isSome_some, true_and, and_true, false_and, and_false, not_true_eq_false, not_false_eq_true, false_implies, true_implies, implies_true, eq_self, ne_eq, or_true, true_or, or_false, false_or, Bool.or_false, Bool.or_true, Bool.false_or, Bool.true_or, Int.toNat_natCast, Int.natCast_nonneg, Int.ofNat_lt, Int.ofNat_le, Int.ofNat_inj, Int.ofNat_zero, ↓reduceIte, reduceIte, replT, filtT, countL, cls, look, aload, astore, aindex, afieldA, afield, aidx, apart, aslice, ibound, acap, azapp, abuildS, abuild, aFill, setL, zrep, asrc, aappend, aconv, alen, amake, amkmap, alookup, aupdate, aalloc, abox, newO, place, rd, Nat.reducePow, AV.isPtr, Nat.reduceLT, Nat.reduceLeDiff, Nat.reduceEqDiff, Nat.reduceAdd, Nat.reduceMul, Nat.reduceSub, Nat.reduceBEq, updL, cellsFrom, reduceCtorEq, ints, bools, intss, sl1, wFacts]
  rcases rfw_neg W C hcb (allI W.length) l with ⟨e1, e2⟩ | ⟨c, e1, e2, b1, b2⟩
  · rw [e1] at hq
    exact ⟨fun _ => ret hq.symm rfl rfl, fun hn => by omega⟩
  · rw [e1] at hq
    exact ⟨fun hn => by omega, fun _ => ret hq.symm (by rw [e2]; rfl) rfl⟩
end
end Go.Ab.Q
