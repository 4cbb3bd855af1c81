/- Contracts of functions of this chapter, for every argument that fits, and what they need. -/
import Derived.Test.YtfjcglohkajbhaaQ20
set_option linter.unusedSimpArgs false
set_option linter.unusedVariables false
namespace Go.Ab.Q
open Go Go.RowKit Go.Proofs
noncomputable section
set_option maxRecDepth 10000
set_option maxHeartbeats 2000000
set_option linter.unusedSimpArgs false
open Classical

theorem weakIn_tree {H : List AO} {id ver : Nat} {a w : Int} {n y : Tr} (ho : H[id]? = some (.con ver 4 (ofL [I a, treeA n, treeA y, I w]))) : WeakIn H (.ref id ver 0) (treeA (.node a n y w)) := weakIn_con ho (by omega) fun j _ => weakIn_rfl _ _
theorem join2 {X : Env} {k : List Item} {s1 s2 : AS} {c a b : Prop} (s' : AS) (h1 : c → a ∧ b ∧ Sub X.base s1 s') (h2 : ¬ c → Sub X.base s2 s') (key : Run X k s') : (c → a ∧ b ∧ RunT X k .mk s1) ∧ (¬ c → RunT X k .mk s2) :=
  ⟨fun hc => ⟨(h1 hc).1, (h1 hc).2.1, key.sub (h1 hc).2.2⟩, fun hc => key.sub (h2 hc)⟩
theorem bel_any (m : Nat) : Bel m .any := fun _ v _ => .any v
def outK (W C s : List Int) (k : Nat) : Tr × Int := if s.length = 1 then (.node (-1) .nil .nil (s.getD 0 0), 0) else stepK W C (best W C) s k
def st2 (W C s : List Int) (n : Nat) (g : Int → Option AV) (k : Nat) : AS := ⟨19, [28, 29, 63, 64, 65], [I (bitsN s), .ref 3 0 0, .ref 0 0 0, .ref 1 0 0, .ref 4 0 0, .any, .ref 5 0 0, .any, .any, .osl 7 s.length 1 0 s.length, .any, .ref 8 0 0, I k, .any, .any, .any, .any, .any, .any], [],
  Hp W C (loopG W (memF W C n) s k g) ++ [.row 0 2 (ofL [.nil, I 0]), .row 0 2 (ofL [.nil, I 0]), .row s.length s.length (slF I 0 s), .row 0 2 (ofL [treeA (outK W C s k).1, I (outK W C s k).2])]⟩
theorem belO_two (m : Nat) {v : Nat} {a b : AV} (ha : Settled a) (hb : Settled b) : belO m (.row v 2 (ofL [a, b])) := fun j hj => by
  rcases (show j = 0 ∨ j = 1 by omega) with rfl | rfl
  · exact bel_of_settled ha
  · exact bel_of_settled hb
theorem st2_bel1 (W C s : List Int) (n : Nat) (g : Int → Option AV) (k : Nat) : ∀ a ∈ (st2 W C s n g k).sl, Bel 9 a := by
  intro a ha
  simp only [st2, List.mem_cons, List.mem_nil_iff, or_false] at ha
  rcases ha with rfl | rfl | rfl | rfl | rfl | rfl | rfl | rfl | rfl | rfl | rfl | rfl | rfl | rfl | rfl | rfl | rfl | rfl | rfl
  all_goals first
    | exact bel_any _
    | exact bel_I _ _
    | exact bel_ref (by omega)
    | exact bel_osl (by omega)
theorem st2_bel2 (W C s : List Int) (n : Nat) (g : Int → Option AV) (k : Nat) (hs : IsSet W s) (hg : MemoOk W C g) : ∀ o ∈ (st2 W C s n g k).h, belO 9 o := by
  intro o ho
  simp only [st2, List.mem_append] at ho
  rcases ho with ho | ho
  · exact hp_bel W C _ (loopG_ok W C _ s hs (fun g t hg ht h0 => memF_ok W C n g t hg ht h0) k g hg) 9 (by omega) o ho
  · simp only [List.mem_cons, List.mem_nil_iff, or_false] at ho
    rcases ho with rfl | rfl | rfl | rfl
    · exact belO_two _ settled_nil (settled_I _)
    · exact belO_two _ settled_nil (settled_I _)
    · exact fun j _ => bel_I _ _
    · exact belO_two _ (settled_tree _) (settled_I _)

theorem loopG_one (W : List Int) (f : (Int → Option AV) → List Int → (Int → Option AV)) (s : List Int) (h : s.length ≤ 1) : ∀ k g, loopG W f s k g = g
  | 0, _ => rfl
  | k + 1, g => by
    have hsl := side_length W s k
    simp only [loopG]
    rw [if_neg (by unfold okK; omega)]; exact loopG_one W f s h k g
theorem outK_end (W C s : List Int) (k : Nat) (h0 : 0 < s.length) (h : s.length ≤ 1 ∨ k = C.length) : outK W C s k = best W C s := by
  rw [best_eq]
  unfold outK
  by_cases h1 : s.length = 1
  · rw [if_pos h1, if_pos h1]
  · rw [if_neg h1, if_neg h1, if_neg (by omega)]
    rcases h with h | rfl
    · omega
    · rfl
theorem outK_skip (W C s : List Int) (k : Nat) (h : ¬ okK W s k) : outK W C s (k + 1) = outK W C s k := by
  unfold outK
  split
  · rfl
  · simp only [stepK]
    rw [if_pos (by unfold okK at h; omega)]
theorem loopG_skip (W : List Int) (f : (Int → Option AV) → List Int → (Int → Option AV)) (s : List Int) (k : Nat) (g : Int → Option AV) (h : ¬ okK W s k) : loopG W f s (k + 1) g = loopG W f s k g := by
  simp only [loopG]; rw [if_neg h]
theorem bits_side0 {W s : List Int} (hs : IsSet W s) (k : Int) (b : Bool) : bitsN (side W s k b) = 0 ↔ (side W s k b).length = 0 := by
  obtain ⟨p, h⟩ := hs.side k b
  rw [h, bits_lst]
  constructor
  · intro h0
    by_cases hn : (lst p W.length).length = 0
    · exact hn
    · have := num_pos hn; omega
  · intro h0
    have : lst p W.length = [] := List.length_eq_zero_iff.1 h0
    rw [← bits_lst, this]; rfl
theorem bits_split {W s : List Int} (hs : IsSet W s) (k : Int) : bitsN (side W s k false) + bitsN (side W s k true) = bitsN s := by
  obtain ⟨p, rfl⟩ := hs
  rw [side_lst, side_lst, bits_lst, bits_lst, bits_lst]
  have := num_split p (fun i => tb (W.getD i 0) k) W.length
  omega

theorem of_step (W C : List Int) (hp : properF W C = 0) (n : Nat) (ih : ∀ s g, s.length ≤ n → 0 < s.length → IsSet W s → MemoOk W C g → HCall Try.prog 31 (argsP (bitsN s)) (Hp W C g) (valA W C s) (Hp W C (memF W C n g s)))
    (s : List Int) (g : Int → Option AV) (hl : s.length ≤ n + 1) (h0 : 0 < s.length) (hset : IsSet W s) (hg : MemoOk W C g) : HCall Try.prog 31 (argsP (bitsN s)) (Hp W C g) (valA W C s) (Hp W C (memF W C (n + 1) g s)) := by
  obtain ⟨⟨hs1, hs2, hs3⟩, hwo, hcb⟩ := proper_size hp
  have hap := proper_apart hp hset.nodup hset.mem
  have hg' := memF_ok W C (n + 1) g s hg hset h0
  refine HCall.introC (fn := Try.f31) Try.call31 Try.func31 rfl mixed 19 [28, 29, 63, 64, 65] [24] [24] (by kernel_rfl) (Nat.le_of_ble_eq_true rfl) (bel_of_settled (settled_valA W C s)) (hp_bel W C _ hg' 5 (Nat.le_refl _)) (vc_soundN 1000 ?_)
  have hlen : (Hp W C g).length = 5 := rfl
  rw [hlen]
  cases hg1 : g (bitsN s) with
  | some a =>
    have ea := memo_hit hg hset hs2 hg1
    subst ea
    have em : memF W C (n + 1) g s = g := by simp only [memF]; rw [if_pos (by rw [hg1]; rfl)]
    rw [em]
    clear em hg' ih
    unfold valA at hg1
    unfold Hp argsP valA
    simp (config := { maxSteps := 2000000 }) only [AS.start, hg1, cells_tree, one_tree, loose_tree', updL, ↓wPre, wPost, List.getD_cons_succ, List.getD_cons_zero, List.set_cons_succ, List.set_cons_zero, List.map_cons, List.map_nil, List.all_cons, List.all_nil, List.length_cons, List.length_nil, List.cons_append, List.nil_append, List.append_nil, List.getElem?_cons_succ, List.getElem?_cons_zero, List.replicate_succ, List.replicate_zero, List.contains_cons, List.contains_nil, List.elem_cons, List.elem_nil, Nat.zero_add, Nat.add_zero, Nat.zero_lt_succ, Int.toNat_zero, Nat.min_self, Nat.zero_min, Nat.min_zero, Nat.sub_zero, Nat.zero_mul, Int.le_refl, Nat.le_refl, Option.getD_none, Option.getD_some, Int.toNat_one, Nat.lt_irrefl, Nat.mul_one, Bool.false_eq_true, Bool.true_eq_false, decide_true, decide_false, decide_eq_true_eq, decide_eq_false_iff_not, Bool.not_true, Bool.not_false, Bool.not_eq_true', Bool.not_eq_false', Bool.and_true, Bool.true_and, Bool.false_and, beq_self_eq_true, ite_true, ite_false, Option.map_some, Option.map_none, Option.isSome_some, true_and, and_true, false_and, and_false, not_true_eq_false, not_false_eq_true, false_implies, true_implies, implies_true, eq_self, ne_eq, or_true, true_or, or_false, false_or, Bool.or_false, Bool.or_true, Bool.false_or, Bool.true_or, Int.toNat_natCast, Int.natCast_nonneg, Int.ofNat_lt, Int.ofNat_le, Int.ofNat_inj, Int.ofNat_zero, ↓reduceIte, reduceIte, replT, filtT, countL, cls, look, aload, astore, aindex, afieldA, afield, aidx, apart, aslice, ibound, acap, azapp, abuildS, abuild, aFill, setL, zrep, asrc, aappend, aconv, alen, amake, amkmap, alookup, aupdate, aalloc, abox, newO, place, rd, Nat.reducePow, AV.isPtr, Nat.reduceLT, Nat.reduceLeDiff, Nat.reduceEqDiff, Nat.reduceAdd, Nat.reduceMul, Nat.reduceSub, Nat.reduceBEq, updL, cellsFrom, reduceCtorEq, ints, bools, intss, sl1, wFacts]
    exact retCell rfl (by simp [AS.get, aload, ldk65, rd, cellsFrom, ofL, oif_true]; rfl) rfl rfl
  | none =>
    obtain ⟨gE, hgE⟩ : ∃ gE, gE = memF W C (n + 1) g s := ⟨_, rfl⟩
    have em : gE = updK (loopG W (memF W C n) s C.length g) (bitsN s) (valA W C s) := by rw [hgE]; simp only [memF]; rw [if_neg (by rw [hg1]; simp)]
    rw [← hgE]
    unfold argsP
    rw [show Hp W C g = [.con 0 1 (ofL [ints W]), .con 0 1 (ofL [ints C]), .map .i64 g, .con 0 1 (ofL [.mp 2]), .con 0 1 (ofL [.fn 31 [.ref 3 0 0, .ref 0 0 0, .ref 1 0 0, .ref 4 0 0]])] from rfl]
    simp (config := { maxSteps := 2000000 }) only [AS.start, hg1, ↓wPre, wPost, List.getD_cons_succ, List.getD_cons_zero, List.set_cons_succ, List.set_cons_zero, List.map_cons, List.map_nil, List.all_cons, List.all_nil, List.length_cons, List.length_nil, List.cons_append, List.nil_append, List.append_nil, List.getElem?_cons_succ, List.getElem?_cons_zero, List.replicate_succ, List.replicate_zero, List.contains_cons, List.contains_nil, List.elem_cons, List.elem_nil, Nat.zero_add, Nat.add_zero, Nat.zero_lt_succ, Int.toNat_zero, Nat.min_self, Nat.zero_min, Nat.min_zero, Nat.sub_zero, Nat.zero_mul, Int.le_refl, Nat.le_refl, Option.getD_none, Option.getD_some, Int.toNat_one, Nat.lt_irrefl, Nat.mul_one, Bool.false_eq_true, Bool.true_eq_false, decide_true, decide_false, decide_eq_true_eq, decide_eq_false_iff_not, Bool.not_true, Bool.not_false, Bool.not_eq_true', Bool.not_eq_false', Bool.and_true, Bool.true_and, Bool.false_and, beq_self_eq_true, ite_true, ite_false, Option.map_some, Option.map_none, Option.isSome_some, true_and, and_true, false_and, and_false, not_true_eq_false, not_false_eq_true, false_implies, true_implies, implies_true, eq_self, ne_eq, or_true, true_or, or_false, false_or, Bool.or_false, Bool.or_true, Bool.false_or, Bool.true_or, Int.toNat_natCast, Int.natCast_nonneg, Int.ofNat_lt, Int.ofNat_le, Int.ofNat_inj, Int.ofNat_zero, ↓reduceIte, reduceIte, replT, filtT, countL, cls, look, aload, astore, aindex, afieldA, afield, aidx, apart, aslice, ibound, acap, azapp, abuildS, abuild, aFill, setL, zrep, asrc, aappend, aconv, alen, amake, amkmap, alookup, aupdate, aalloc, abox, newO, place, rd, Nat.reducePow, AV.isPtr, Nat.reduceLT, Nat.reduceLeDiff, Nat.reduceEqDiff, Nat.reduceAdd, Nat.reduceMul, Nat.reduceSub, Nat.reduceBEq, updL, cellsFrom, reduceCtorEq, ints, bools, intss, sl1, wFacts]
    obtain ⟨p, hps⟩ : ∃ p, s = lst p W.length := hset
    have hbp : bitsN s = ((num p W.length : Nat) : Int) := by rw [hps]; exact bits_lst _ _
    have sub : ∀ j, (lst p j).length ≤ j := fun j => lst_len p j
    refine run_loop (fun j : Nat => ⟨19, [28, 29, 63, 64, 65], [I (bitsN s), .ref 3 0 0, .ref 0 0 0, .ref 1 0 0, .ref 4 0 0, .any, .ref 5 0 0, .any, .any, .osl 7 (lst p j).length 1 0 (lst p j).length, .any, .any, .any, .any, .any, .any, .any, .any, .any],
      [(28, I W.length), (29, I j)], Hp W C g ++ [.row 0 2 (ofL [.nil, I 0]), .row 0 2 (ofL [.nil, I 0]), .row (lst p j).length (lst p j).length (slF I 0 (lst p j))]⟩) (fun j => j ≤ W.length) (fun j => W.length - j) 0 (by omega)
      ((sub_adopt 9 1 (slF I 0 []) rfl).trans (sub_mk rfl ?_ ?_ ?_)) ?_
    · simp [subL, AS.put, lst, I]
    · simp [subT, AS.put, look, I]
    · simp [AS.put, lst, Hp, I, ints, sl1]
    intro j hj next
    have w1 := wj j (by omega)
    have hsj := sub j
    unfold Hp
    refine vc_soundN 1000 ?_
    simp (config := { maxSteps := 2000000 }) only [List.cons_append, List.nil_append, w1, tb_eq, ↓wPre, wPost, List.getD_cons_succ, List.getD_cons_zero, List.set_cons_succ, List.set_cons_zero, List.map_cons, List.map_nil, List.all_cons, List.all_nil, List.length_cons, List.length_nil, List.cons_append, List.nil_append, List.append_nil, List.getElem?_cons_succ, List.getElem?_cons_zero, List.replicate_succ, List.replicate_zero, List.contains_cons, List.contains_nil, List.elem_cons, List.elem_nil, Nat.zero_add, Nat.add_zero, Nat.zero_lt_succ, Int.toNat_zero, Nat.min_self, Nat.zero_min, Nat.min_zero, Nat.sub_zero, Nat.zero_mul, Int.le_refl, Nat.le_refl, Option.getD_none, Option.getD_some, Int.toNat_one, Nat.lt_irrefl, Nat.mul_one, Bool.false_eq_true, Bool.true_eq_false, decide_true, decide_false, decide_eq_true_eq, decide_eq_false_iff_not, Bool.not_true, Bool.not_false, Bool.not_eq_true', Bool.not_eq_false', Bool.and_true, Bool.true_and, Bool.false_and, beq_self_eq_true, ite_true, ite_false, Option.map_some, Option.map_none, Option.isSome_some, true_and, and_true, false_and, and_false, not_true_eq_false, not_false_eq_true, false_implies, true_implies, implies_true, eq_self, ne_eq, or_true, true_or, or_false, false_or, Bool.or_false, Bool.or_true, Bool.false_or, Bool.true_or, Int.toNat_natCast, Int.natCast_nonneg, Int.ofNat_lt, Int.ofNat_le, Int.ofNat_inj, Int.ofNat_zero, ↓reduceIte, reduceIte, replT, filtT, countL, cls, look, aload, astore, aindex, afieldA, afield, aidx, apart, aslice, ibound, acap, azapp, abuildS, abuild, aFill, setL, zrep, asrc, aappend, aconv, alen, amake, amkmap, alookup, aupdate, aalloc, abox, newO, place, rd, Nat.reducePow, AV.isPtr, Nat.reduceLT, Nat.reduceLeDiff, Nat.reduceEqDiff, Nat.reduceAdd, Nat.reduceMul, Nat.reduceSub, Nat.reduceBEq, updL, cellsFrom, reduceCtorEq, ints, bools, intss, sl1, wFacts]
    refine ⟨fun h => ?_, fun h => ?_⟩
    · have ht : tb (bitsN s) j = p j := by rw [hbp]; exact tb_num p W.length j hs2 h
      refine ⟨fun hb => ⟨by omega, next (j + 1) _ (by omega) (by omega) (sub_mk rfl ?_ ?_ ?_)⟩, fun hb => next (j + 1) _ (by omega) (by omega) (sub_mk rfl ?_ ?_ ?_)⟩
      all_goals rw [ht] at hb
      all_goals first
        | (simp [subT, look, ints, sl1, I]; done)
        | simp [subL, lst_succ, hb, I, Hp, ints, sl1]
    obtain rfl : j = W.length := by omega
    rw [← hps]
    have hset : IsSet W s := ⟨p, hps⟩
    refine join2 (st2 W C s n g 0) (fun h1 => ⟨by omega, by omega, ?_⟩) (fun h1 => ?_) ?_
    · refine (sub_con 9 rfl).trans ((sub_roww 8 (ofL [treeA (.node (-1) .nil .nil (s.getD 0 0)), I 0]) rfl ?_).trans (sub_cut (m := 9) (by simp [envC]) rfl ?_ ?_ ?_ (st2_bel1 W C s n g 0) (by simp [st2]) (st2_bel2 W C s n g 0 hset hg)))
      · intro j hj
        rcases (show j = 0 ∨ j = 1 by omega) with rfl | rfl
        · exact weakIn_tree rfl
        · exact weakIn_rfl _ _
      · simp [st2, subL, I]
      · simp [st2, subT]
      · have : outK W C s 0 = (.node (-1) .nil .nil (s.getD 0 0), 0) := if_pos (by omega)
        simp [st2, Hp, this, loopG, ints, sl1, I]
    · refine sub_mk rfl ?_ ?_ ?_
      · simp [st2, subL, I]
      · simp [st2, subT]
      · have : outK W C s 0 = (.nil, -1) := if_neg (by omega)
        simp [st2, Hp, this, loopG, ints, sl1, I, treeA]
    clear next
    refine run_loop (st2 W C s n g) (fun k => k ≤ C.length) (fun k => C.length - k) 0 (by omega) (Sub.rfl' _ _) ?_
    intro k hk next
    have w1 := wj k (by omega)
    refine vc_soundN 1000 ?_
    unfold st2 Hp
    simp (config := { maxSteps := 2000000 }) only [List.cons_append, List.nil_append, w1, cells_tree, one_tree, loose_tree', ↓wPre, wPost, List.getD_cons_succ, List.getD_cons_zero, List.set_cons_succ, List.set_cons_zero, List.map_cons, List.map_nil, List.all_cons, List.all_nil, List.length_cons, List.length_nil, List.cons_append, List.nil_append, List.append_nil, List.getElem?_cons_succ, List.getElem?_cons_zero, List.replicate_succ, List.replicate_zero, List.contains_cons, List.contains_nil, List.elem_cons, List.elem_nil, Nat.zero_add, Nat.add_zero, Nat.zero_lt_succ, Int.toNat_zero, Nat.min_self, Nat.zero_min, Nat.min_zero, Nat.sub_zero, Nat.zero_mul, Int.le_refl, Nat.le_refl, Option.getD_none, Option.getD_some, Int.toNat_one, Nat.lt_irrefl, Nat.mul_one, Bool.false_eq_true, Bool.true_eq_false, decide_true, decide_false, decide_eq_true_eq, decide_eq_false_iff_not, Bool.not_true, Bool.not_false, Bool.not_eq_true', Bool.not_eq_false', Bool.and_true, Bool.true_and, Bool.false_and, beq_self_eq_true, ite_true, ite_false, Option.map_some, Option.map_none, Option.isSome_some, true_and, and_true, false_and, and_false, not_true_eq_false, not_false_eq_true, false_implies, true_implies, implies_true, eq_self, ne_eq, or_true, true_or, or_false, false_or, Bool.or_false, Bool.or_true, Bool.false_or, Bool.true_or, Int.toNat_natCast, Int.natCast_nonneg, Int.ofNat_lt, Int.ofNat_le, Int.ofNat_inj, Int.ofNat_zero, ↓reduceIte, reduceIte, replT, filtT, countL, cls, look, aload, astore, aindex, afieldA, afield, aidx, apart, aslice, ibound, acap, azapp, abuildS, abuild, aFill, setL, zrep, asrc, aappend, aconv, alen, amake, amkmap, alookup, aupdate, aalloc, abox, newO, place, rd, Nat.reducePow, AV.isPtr, Nat.reduceLT, Nat.reduceLeDiff, Nat.reduceEqDiff, Nat.reduceAdd, Nat.reduceMul, Nat.reduceSub, Nat.reduceBEq, updL, cellsFrom, reduceCtorEq, ints, bools, intss, sl1, wFacts]
    have fin : ∀ (st : AS) (_ : s.length ≤ 1 ∨ k = C.length) (_ : st.get 6 = .ref 5 0 0) (_ : st.h[5]? = some (.row 0 2 (ofL [treeA (outK W C s k).1, I (outK W C s k).2]))) (_ : st.h.take 5 = Hp W C (updK (loopG W (memF W C n) s k g) (bitsN s) (.agg [treeA (outK W C s k).1, I (outK W C s k).2]))),
        RetOk (envC Try.prog Try.f31 [24] [24] 5 (valA W C s) (Hp W C gE)) st := by
      intro st hk h1 h2 h3
      have eo := outK_end W C s k h0 hk
      have el : loopG W (memF W C n) s k g = loopG W (memF W C n) s C.length g := by
        rcases hk with h | rfl
        · rw [loopG_one _ _ _ h, loopG_one _ _ _ h]
        · rfl
      rw [eo] at h2 h3
      refine retCell rfl (v := valA W C s) ?_ rfl ?_
      · rw [h1]
        simp [aload, ldk65, rd, h2, cellsFrom, ofL, oif_true, valA]
      · rw [h3, em, el]; rfl
    refine ⟨fun h => ⟨fun h1 => ?_, fun h1 => fin _ (.inl (by omega)) rfl rfl rfl⟩, fun h => fin _ (.inr (by omega)) rfl rfl rfl⟩
    clear fin
    refine run_loop (fun j : Nat => ⟨19, [28, 29, 63, 64, 65], [I (bitsN s), .ref 3 0 0, .ref 0 0 0, .ref 1 0 0, .ref 4 0 0, .any, .ref 5 0 0, .any, .any, .osl 7 s.length 1 0 s.length, .any, .ref 8 0 0, I k, I (bitsN (side W (s.take j) k true)), .any, .any, .any, .any, .any], [(63, .osl 7 s.length 1 0 s.length), (64, I s.length), (65, I j)],
        Hp W C (loopG W (memF W C n) s k g) ++ [.row 0 2 (ofL [.nil, I 0]), .row 0 2 (ofL [.nil, I 0]), .row s.length s.length (slF I 0 s), .row 0 2 (ofL [treeA (outK W C s k).1, I (outK W C s k).2])]⟩) (fun j => j ≤ s.length) (fun j => s.length - j) 0 (by omega)
      (sub_mk rfl (by simp [subL, ints, sl1, I, side, bitsN]) (by simp [subT, look, I]) (by simp [Hp, I, ints, sl1])) ?_
    intro j hj nextj
    have w2 := wj j (by have := hset.len; omega)
    refine vc_soundN 1000 ?_
    unfold Hp
    simp (config := { maxSteps := 2000000 }) only [List.cons_append, List.nil_append, w1, w2, cells_tree, one_tree, loose_tree', ↓wPre, wPost, List.getD_cons_succ, List.getD_cons_zero, List.set_cons_succ, List.set_cons_zero, List.map_cons, List.map_nil, List.all_cons, List.all_nil, List.length_cons, List.length_nil, List.cons_append, List.nil_append, List.append_nil, List.getElem?_cons_succ, List.getElem?_cons_zero, List.replicate_succ, List.replicate_zero, List.contains_cons, List.contains_nil, List.elem_cons, List.elem_nil, Nat.zero_add, Nat.add_zero, Nat.zero_lt_succ, Int.toNat_zero, Nat.min_self, Nat.zero_min, Nat.min_zero, Nat.sub_zero, Nat.zero_mul, Int.le_refl, Nat.le_refl, Option.getD_none, Option.getD_some, Int.toNat_one, Nat.lt_irrefl, Nat.mul_one, Bool.false_eq_true, Bool.true_eq_false, decide_true, decide_false, decide_eq_true_eq, decide_eq_false_iff_not, Bool.not_true, Bool.not_false, Bool.not_eq_true', Bool.not_eq_false', Bool.and_true, Bool.true_and, Bool.false_and, beq_self_eq_true, ite_true, ite_false, Option.map_some, Option.map_none, Option.isSome_some, true_and, and_true, false_and, and_false, not_true_eq_false, not_false_eq_true, false_implies, true_implies, implies_true, eq_self, ne_eq, or_true, true_or, or_false, false_or, Bool.or_false, Bool.or_true, Bool.false_or, Bool.true_or, Int.toNat_natCast, Int.natCast_nonneg, Int.ofNat_lt, Int.ofNat_le, Int.ofNat_inj, Int.ofNat_zero, ↓reduceIte, reduceIte, replT, filtT, countL, cls, look, aload, astore, aindex, afieldA, afield, aidx, apart, aslice, ibound, acap, azapp, abuildS, abuild, aFill, setL, zrep, asrc, aappend, aconv, alen, amake, amkmap, alookup, aupdate, aalloc, abox, newO, place, rd, Nat.reducePow, AV.isPtr, Nat.reduceLT, Nat.reduceLeDiff, Nat.reduceEqDiff, Nat.reduceAdd, Nat.reduceMul, Nat.reduceSub, Nat.reduceBEq, updL, cellsFrom, reduceCtorEq, ints, bools, intss, sl1, wFacts]
    refine ⟨fun h2 => ?_, fun h2 => ?_⟩
    · have hmem := hset.mem _ (getD_mem (d := 0) h2)
      have wy : ior .i64 (bitsN (side W (s.take j) k true)) (ishl .i64 (iand .i64 (ishr .i64 (W.getD (s.getD j 0).toNat 0) k) 1) (s.getD j 0)) = bitsN (side W (s.take (j + 1)) k true) := by
        obtain ⟨i, q1, q2, q3, q4, q5⟩ := lst_take p W.length j (by rw [← hps]; exact h2)
        rw [← hps] at q1 q4 q5
        rw [q1, q4, q5, side_lst, side_lst, bits_lst, bits_lst, Int.toNat_natCast]
        obtain ⟨x1, x2, _⟩ := hwo i q2
        obtain ⟨x, hx⟩ := Int.eq_ofNat_of_zero_le x1
        have hpw : (2 : Int) ^ C.length = ((2 ^ C.length : Nat) : Int) := by simp
        have hle : 2 ^ C.length ≤ 2 ^ 8 := Nat.pow_le_pow_right (by omega) hs3
        rw [hx] at x2
        rw [hx, bit01 x k (by omega) (by omega)]
        exact or_step _ i (by omega) _ (by simp only [q3, hx]; simp)
      simp only [wy]
      refine ⟨h2, h2, by omega, by omega, by omega, nextj (j + 1) _ (by omega) (by omega) (sub_mk rfl (by simp [subL, ints, sl1, I]) (by simp [subT, look, I]) (by simp [Hp, I, ints, sl1]))⟩
    obtain rfl : j = s.length := by omega
    rw [List.take_length]
    have hne : s.length ≠ 1 := by omega
    have b1 := bits_side0 hset k true
    have b0 := bits_side0 hset k false
    have bs := bits_split hset k
    have skip : ∀ (tm : List (Nat × AV)) (y : AV), ¬ okK W s k → Sub 5 ⟨19, [28, 29, 63, 64, 65], [I (bitsN s), .ref 3 0 0, .ref 0 0 0, .ref 1 0 0, .ref 4 0 0, .any, .ref 5 0 0, .any, .any, .osl 7 s.length 1 0 s.length, .any, .ref 8 0 0, I ((k + 1 : Nat) : Int), y, .any, .any, .any, .any, .any], tm,
        Hp W C (loopG W (memF W C n) s k g) ++ [.row 0 2 (ofL [.nil, I 0]), .row 0 2 (ofL [.nil, I 0]), .row s.length s.length (slF I 0 s), .row 0 2 (ofL [treeA (outK W C s k).1, I (outK W C s k).2])]⟩ (st2 W C s n g (k + 1)) := fun tm y hno => by
      unfold st2
      rw [outK_skip W C s k hno, loopG_skip W _ s k g hno]
      exact sub_mk rfl (by simp [subL, I]) (by simp [subT]) rfl
    refine ⟨fun h3 => next (k + 1) _ (by omega) (by omega) (skip _ _ (by unfold okK; omega)), fun h3 => ⟨fun h4 => next (k + 1) _ (by omega) (by omega) (skip _ _ (by unfold okK; omega)), fun h4 => ?_⟩⟩
    have hok : okK W s k := by unfold okK; omega
    clear skip nextj
    obtain ⟨o1, o2⟩ := id hok
    have hsl := side_length W s k
    have wn : iandn .i64 (bitsN s) (bitsN (side W s k true)) = bitsN (side W s k false) := by
      have := not_step W p k W.length hs2
      rwa [← hps] at this
    have hgk := loopG_ok W C (memF W C n) s hset (fun g t hg ht h0 => memF_ok W C n g t hg ht h0) k g hg
    have hg1' := memF_ok W C n _ (side W s k false) hgk (hset.side k false) (by omega)
    have hg2' := memF_ok W C n _ (side W s k true) hg1' (hset.side k true) (by omega)
    have ih1 := ih (side W s k false) _ (by omega) (by omega) (hset.side k false) hgk
    have ih2 := ih (side W s k true) _ (by omega) (by omega) (hset.side k true) hg1'
    have hloop : loopG W (memF W C n) s (k + 1) g = memF W C n (memF W C n (loopG W (memF W C n) s k g) (side W s k false)) (side W s k true) := by
      simp only [loopG]; rw [if_pos hok]
    obtain ⟨m1, m2, m3, m4, m5, m6⟩ := (leastK_step W C s hcb hap k h).2 hok
    have v1 := best_bound W C hcb _ (side W s k false) rfl (by omega) (hap.side k false)
    have v2 := best_bound W C hcb _ (side W s k true) rfl (by omega) (hap.side k true)
    have hlen8 := hset.len
    have wc : IntKind.i64.wrap (C.getD k 0 + if (best W C (side W s k false)).2 < (best W C (side W s k true)).2 then (best W C (side W s k true)).2 else (best W C (side W s k false)).2) = cK W C (best W C) s k := by
      have hcA := CostOk.at hcb h
      have : cK W C (best W C) s k = C.getD k 0 + (if (best W C (side W s k false)).2 < (best W C (side W s k true)).2 then (best W C (side W s k true)).2 else (best W C (side W s k false)).2) := by unfold cK; split <;> omega
      rw [← this, IntKind.wrap_i64]; omega
    have hout : outK W C s (k + 1) = if (outK W C s k).2 < 0 ∨ cK W C (best W C) s k < (outK W C s k).2 then (.node k (best W C (side W s k false)).1 (best W C (side W s k true)).1 (-1), cK W C (best W C) s k) else outK W C s k := by
      unfold outK
      rw [if_neg hne, if_neg hne]
      simp only [stepK]
      rw [if_neg (by unfold okK at hok; omega)]; rfl
    refine call_frame (H1 := Hp W C (loopG W (memF W C n) s k g)) (rest := [.row 0 2 (ofL [.nil, I 0]), .row 0 2 (ofL [.nil, I 0]), .row s.length s.length (slF I 0 s), .row 0 2 (ofL [treeA (outK W C s k).1, I (outK W C s k).2]), .unborn, .unborn]) rfl ih1 rfl rfl (args_bel _) (hp_bel W C _ hgk 5 (Nat.le_refl _)) (hp_born _ _ _) (hp_born _ _ _) (hp_con _ _ _ _)
      ⟨by rw [wn]; exact Weak.rfl' _, Weak.rfl' _, Weak.rfl' _, Weak.rfl' _, Weak.rfl' _, trivial⟩ ?_
    unfold Hp valA
    simp (config := { maxSteps := 2000000 }) only [List.cons_append, List.nil_append, w1, cells_tree, one_tree, loose_tree', ↓wPre, wPost, List.getD_cons_succ, List.getD_cons_zero, List.set_cons_succ, List.set_cons_zero, List.map_cons, List.map_nil, List.all_cons, List.all_nil, List.length_cons, List.length_nil, List.cons_append, List.nil_append, List.append_nil, List.getElem?_cons_succ, List.getElem?_cons_zero, List.replicate_succ, List.replicate_zero, List.contains_cons, List.contains_nil, List.elem_cons, List.elem_nil, Nat.zero_add, Nat.add_zero, Nat.zero_lt_succ, Int.toNat_zero, Nat.min_self, Nat.zero_min, Nat.min_zero, Nat.sub_zero, Nat.zero_mul, Int.le_refl, Nat.le_refl, Option.getD_none, Option.getD_some, Int.toNat_one, Nat.lt_irrefl, Nat.mul_one, Bool.false_eq_true, Bool.true_eq_false, decide_true, decide_false, decide_eq_true_eq, decide_eq_false_iff_not, Bool.not_true, Bool.not_false, Bool.not_eq_true', Bool.not_eq_false', Bool.and_true, Bool.true_and, Bool.false_and, beq_self_eq_true, ite_true, ite_false, Option.map_some, Option.map_none, Option.isSome_some, true_and, and_true, false_and, and_false, not_true_eq_false, not_false_eq_true, false_implies, true_implies, implies_true, eq_self, ne_eq, or_true, true_or, or_false, false_or, Bool.or_false, Bool.or_true, Bool.false_or, Bool.true_or, Int.toNat_natCast, Int.natCast_nonneg, Int.ofNat_lt, Int.ofNat_le, Int.ofNat_inj, Int.ofNat_zero, ↓reduceIte, reduceIte, replT, filtT, countL, cls, look, aload, astore, aindex, afieldA, afield, aidx, apart, aslice, ibound, acap, azapp, abuildS, abuild, aFill, setL, zrep, asrc, aappend, aconv, alen, amake, amkmap, alookup, aupdate, aalloc, abox, newO, place, rd, Nat.reducePow, AV.isPtr, Nat.reduceLT, Nat.reduceLeDiff, Nat.reduceEqDiff, Nat.reduceAdd, Nat.reduceMul, Nat.reduceSub, Nat.reduceBEq, updL, cellsFrom, reduceCtorEq, ints, bools, intss, sl1, wFacts]
    refine call_frame (H1 := Hp W C (memF W C n (loopG W (memF W C n) s k g) (side W s k false))) (rest := [.row 0 2 (ofL [.nil, I 0]), .row 0 2 (ofL [.nil, I 0]), .row s.length s.length (slF I 0 s), .row 0 2 (ofL [treeA (outK W C s k).1, I (outK W C s k).2]), .unborn, .unborn]) rfl ih2 rfl rfl (args_bel _) (hp_bel W C _ hg1' 5 (Nat.le_refl _)) (hp_born _ _ _) (hp_born _ _ _) (hp_con _ _ _ _)
      ⟨Weak.rfl' _, Weak.rfl' _, Weak.rfl' _, Weak.rfl' _, Weak.rfl' _, trivial⟩ ?_
    unfold Hp valA
    simp (config := { maxSteps := 2000000 }) only [List.cons_append, List.nil_append, w1, wc, cells_tree, one_tree, loose_tree', ↓wPre, wPost, List.getD_cons_succ, List.getD_cons_zero, List.set_cons_succ, List.set_cons_zero, List.map_cons, List.map_nil, List.all_cons, List.all_nil, List.length_cons, List.length_nil, List.cons_append, List.nil_append, List.append_nil, List.getElem?_cons_succ, List.getElem?_cons_zero, List.replicate_succ, List.replicate_zero, List.contains_cons, List.contains_nil, List.elem_cons, List.elem_nil, Nat.zero_add, Nat.add_zero, Nat.zero_lt_succ, Int.toNat_zero, Nat.min_self, Nat.zero_min, Nat.min_zero, Nat.sub_zero, Nat.zero_mul, Int.le_refl, Nat.le_refl, Option.getD_none, Option.getD_some, Int.toNat_one, Nat.lt_irrefl, Nat.mul_one, Bool.false_eq_true, Bool.true_eq_false, decide_true, decide_false, decide_eq_true_eq, decide_eq_false_iff_not, Bool.not_true, Bool.not_false, Bool.not_eq_true', Bool.not_eq_false', Bool.and_true, Bool.true_and, Bool.false_and, beq_self_eq_true, ite_true, ite_false, Option.map_some, Option.map_none, Option.isSome_some, true_and, and_true, false_and, and_false, not_true_eq_false, not_false_eq_true, false_implies, true_implies, implies_true, eq_self, ne_eq, or_true, true_or, or_false, false_or, Bool.or_false, Bool.or_true, Bool.false_or, Bool.true_or, Int.toNat_natCast, Int.natCast_nonneg, Int.ofNat_lt, Int.ofNat_le, Int.ofNat_inj, Int.ofNat_zero, ↓reduceIte, reduceIte, replT, filtT, countL, cls, look, aload, astore, aindex, afieldA, afield, aidx, apart, aslice, ibound, acap, azapp, abuildS, abuild, aFill, setL, zrep, asrc, aappend, aconv, alen, amake, amkmap, alookup, aupdate, aalloc, abox, newO, place, rd, Nat.reducePow, AV.isPtr, Nat.reduceLT, Nat.reduceLeDiff, Nat.reduceEqDiff, Nat.reduceAdd, Nat.reduceMul, Nat.reduceSub, Nat.reduceBEq, updL, cellsFrom, reduceCtorEq, ints, bools, intss, sl1, wFacts]
    have take : ∀ (tm : List (Nat × AV)) (y a b c : AV), ((outK W C s k).2 < 0 ∨ cK W C (best W C) s k < (outK W C s k).2) → Sub 5 ⟨19, [28, 29, 63, 64, 65], [I (bitsN s), .ref 3 0 0, .ref 0 0 0, .ref 1 0 0, .ref 4 0 0, .any, .ref 5 0 0, .any, .any, .osl 7 s.length 1 0 s.length, .any, .ref 8 0 0, I ((k + 1 : Nat) : Int), y, .any, .any, a, b, c], tm,
        Hp W C (loopG W (memF W C n) s (k + 1) g) ++ [.row 0 2 (ofL [.nil, I 0]), .row 0 2 (ofL [.nil, I 0]), .row s.length s.length (slF I 0 s), .row 0 2 (ofL [.ref 11 0 0, I (cK W C (best W C) s k)]), .row 0 2 (ofL [treeA (best W C (side W s k false)).1, I (best W C (side W s k false)).2]), .row 0 2 (ofL [treeA (best W C (side W s k true)).1, I (best W C (side W s k true)).2]),
          .row 0 4 (ofL [I k, treeA (best W C (side W s k false)).1, treeA (best W C (side W s k true)).1, I (-1)])]⟩ (st2 W C s n g (k + 1)) := by
      intro tm y a b c hd
      rw [if_pos hd] at hout
      refine (sub_con 11 rfl).trans ((sub_roww 8 (ofL [treeA (.node k (best W C (side W s k false)).1 (best W C (side W s k true)).1 (-1)), I (cK W C (best W C) s k)]) rfl ?_).trans (sub_cut (m := 9) (by omega) rfl ?_ ?_ ?_ (st2_bel1 W C s n g (k + 1)) (by simp [st2]) (st2_bel2 W C s n g (k + 1) hset hg)))
      · intro j hj
        rcases (show j = 0 ∨ j = 1 by omega) with rfl | rfl
        · exact weakIn_tree rfl
        · exact weakIn_rfl _ _
      · simp [st2, subL, I]
      · simp [st2, subT]
      · simp [st2, Hp, hout]
    have keep : ∀ (tm : List (Nat × AV)) (y a b c : AV), ¬ ((outK W C s k).2 < 0 ∨ cK W C (best W C) s k < (outK W C s k).2) → Sub 5 ⟨19, [28, 29, 63, 64, 65], [I (bitsN s), .ref 3 0 0, .ref 0 0 0, .ref 1 0 0, .ref 4 0 0, .any, .ref 5 0 0, .any, .any, .osl 7 s.length 1 0 s.length, .any, .ref 8 0 0, I ((k + 1 : Nat) : Int), y, .any, .any, a, b, c], tm,
        Hp W C (loopG W (memF W C n) s (k + 1) g) ++ [.row 0 2 (ofL [.nil, I 0]), .row 0 2 (ofL [.nil, I 0]), .row s.length s.length (slF I 0 s), .row 0 2 (ofL [treeA (outK W C s k).1, I (outK W C s k).2]), .row 0 2 (ofL [treeA (best W C (side W s k false)).1, I (best W C (side W s k false)).2]), .row 0 2 (ofL [treeA (best W C (side W s k true)).1, I (best W C (side W s k true)).2])]⟩ (st2 W C s n g (k + 1)) := by
      intro tm y a b c hd
      rw [if_neg hd] at hout
      refine sub_cut (m := 9) (by omega) rfl ?_ ?_ ?_ (st2_bel1 W C s n g (k + 1)) (by simp [st2]) (st2_bel2 W C s n g (k + 1) hset hg)
      · simp [st2, subL, I]
      · simp [st2, subT]
      · simp [st2, Hp, hout]
    rw [hloop] at take keep
    refine ⟨h, h, fun hz => next (k + 1) _ (by omega) (by omega) (take _ _ _ _ _ (.inl hz)), fun hz => ⟨fun hlt => next (k + 1) _ (by omega) (by omega) (take _ _ _ _ _ (.inr hlt)), fun hlt => next (k + 1) _ (by omega) (by omega) (keep _ _ _ _ _ (by omega))⟩⟩

theorem of_fn (W C : List Int) (hp : properF W C = 0) : ∀ (n : Nat) (s : List Int) (g : Int → Option AV), s.length ≤ n → 0 < s.length → IsSet W s → MemoOk W C g → HCall Try.prog 31 (argsP (bitsN s)) (Hp W C g) (valA W C s) (Hp W C (memF W C n g s)) := by
  intro n
  induction n with
  | zero => intro s g h1 h2; omega
  | succ n ih => intro s g hl h0 hset hg; exact of_step W C hp n ih s g hl h0 hset hg

end
end Go.Ab.Q
