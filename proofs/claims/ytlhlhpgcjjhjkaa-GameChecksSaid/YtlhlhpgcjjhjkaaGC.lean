/- Contracts of functions of this chapter, for every argument that fits, and what they need. -/
import Derived.Test.YtlhlhpgcjjhjkaaGB
import Derived.Test.YtlhlhpgcjjhjkaaAb4
set_option linter.unusedSimpArgs false
set_option linter.unusedVariables false
namespace Go.Ab.G
open Go Go.RowKit Classical
noncomputable section
set_option linter.unusedSimpArgs false
set_option linter.unusedVariables false

/-! ### Many objects -/
def updF {α : Type} (f : Nat → α) (m : Nat) (x : α) : Nat → α := fun q => if q = m then x else f q
def objs (bl : Nat → List Int) (n : Nat) : List AO := (List.range n).map fun q => .row (bl q).length (bl q).length (slF I 0 (bl q))
def cels (bl : Nat → List Int) : Nat → AV := fun q => .osl (q + 5) (bl q).length 1 0 (bl q).length
theorem objs_at (bl : Nat → List Int) (n m : Nat) (h : m < n) : (objs bl n)[m]? = some (.row (bl m).length (bl m).length (slF I 0 (bl m))) := by
  simp [objs, h]
theorem objs_set (bl : Nat → List Int) (n m : Nat) (L : List Int) : (objs bl n).set m (.row L.length L.length (slF I 0 L)) = objs (updF bl m L) n := by
  refine List.ext_getElem? fun i => ?_
  by_cases hi : i < n
  · rw [objs_at _ _ _ hi]
    by_cases e : i = m
    · subst e
      rw [List.getElem?_set_self (by simp [objs, hi])]; simp [updF]
    · rw [List.getElem?_set_ne (Ne.symm e), objs_at _ _ _ hi]; simp [updF, e]
  · rw [List.getElem?_eq_none (by simp [objs]; omega), List.getElem?_eq_none (by simp [objs]; omega)]
theorem cels_upd (bl : Nat → List Int) (m : Nat) (L : List Int) : upd (cels bl) m (.osl (m + 5) L.length 1 0 L.length) = cels (updF bl m L) := by
  funext q
  unfold upd cels updF
  by_cases e : q = m
  · subst e; simp
  · simp [e]
theorem objs_empty (n : Nat) : objs (fun _ => []) n = List.replicate n (.row 0 0 (slF I 0 [])) := by
  refine List.ext_getElem (by simp [objs]) fun i h1 h2 => by simp [objs]
theorem sub_cons {m : Nat} {s : AS} (P : List AO) (f f' : Nat → AO) (n : Nat) (hf : ∀ q, ∃ v k g, f q = .row v k g ∧ f' q = .con v k g) (hs : s.h = P ++ (List.range n).map f) :
    Sub m s { s with h := P ++ (List.range n).map f' } := by
  have step : ∀ j, j ≤ n → Sub m s { s with h := P ++ (List.range n).map fun q => if q < j then f' q else f q } := by
    intro j
    induction j with
    | zero =>
      intro _
      have e : P ++ (List.range n).map (fun q => if q < 0 then f' q else f q) = s.h := by rw [hs]; simp
      rw [e]; exact Sub.rfl' _ _
    | succ j ih =>
      intro hj
      refine (ih (by omega)).trans ?_
      obtain ⟨v, k, g, e1, e2⟩ := hf j
      have hat : (P ++ (List.range n).map fun q => if q < j then f' q else f q)[P.length + j]? = some (.row v k g) := by
        rw [List.getElem?_append_right (by omega)]
        simp [show j < n by omega, e1]
      have := sub_con (m := m) (s := { s with h := P ++ (List.range n).map fun q => if q < j then f' q else f q }) (P.length + j) hat
      have e3 : (P ++ (List.range n).map fun q => if q < j then f' q else f q).set (P.length + j) (.con v k g) = P ++ (List.range n).map fun q => if q < j + 1 then f' q else f q := by
        rw [List.set_append_right _ _ (by omega)]
        congr 1
        refine List.ext_getElem? fun i => ?_
        by_cases hi : i < n
        · by_cases e : i = j
          · subst e
            rw [show P.length + i - P.length = i by omega, List.getElem?_set_self (by simp [hi])]
            simp [hi, e2]
          · rw [show P.length + j - P.length = j by omega, List.getElem?_set_ne (Ne.symm e)]
            simp only [List.getElem?_map, List.getElem?_range hi, Option.map_some]
            by_cases h1 : i < j
            · rw [if_pos h1, if_pos (by omega)]
            · rw [if_neg h1, if_neg (by omega)]
        · rw [List.getElem?_eq_none (by simp; omega), List.getElem?_eq_none (by simp; omega)]
      rw [← e3]; exact this
  have := step n (Nat.le_refl _)
  have e : (List.range n).map (fun q => if q < n then f' q else f q) = (List.range n).map f' := List.map_congr_left fun q hq => if_pos (by simpa using hq)
  rw [e] at this
  exact this

/-! ### The lists that go back -/
def backI (g : Gm) (k q : Nat) : List Int := (allN k).filter fun j => decide ((q : Int) ∈ nx g j.toNat)
def backJ (g : Gm) (k i q : Nat) : List Int := backI g k q ++ if (q : Int) ∈ (nx g k).take i then [(k : Int)] else []
theorem allN_succ (n : Nat) : allN (n + 1) = allN n ++ [(n : Int)] := by simp [allN, List.range_succ]
theorem allN_len (n : Nat) : (allN n).length = n := by simp [allN]
theorem backI_zero (g : Gm) : backI g 0 = fun _ => [] := rfl
theorem backJ_zero (g : Gm) (k : Nat) : backJ g k 0 = backI g k := by funext q; simp [backJ]
theorem backJ_end (g : Gm) (k : Nat) : backJ g k (nx g k).length = backI g (k + 1) := by
  funext q
  unfold backJ backI
  rw [List.take_length, allN_succ, List.filter_append]
  congr 1
  by_cases h : (q : Int) ∈ nx g k <;> simp [h]
theorem backJ_succ (g : Gm) (hv : restG g) (k i : Nat) (hk : k < g.n) (hi : i < (nx g k).length) :
    updF (backJ g k i) ((nx g k).getD i 0).toNat (backJ g k i ((nx g k).getD i 0).toNat ++ [(k : Int)]) = backJ g k (i + 1) := by
  have hris := (hv.2.2.2 k hk).2.1
  have hm := rising_mem hris (getD_mem (d := 0) hi)
  have hmi : ((((nx g k).getD i 0).toNat : Nat) : Int) = (nx g k).getD i 0 := by omega
  have hnot : (nx g k).getD i 0 ∉ (nx g k).take i := fun h => by
    obtain ⟨j, hj, e⟩ := List.getElem_of_mem h
    simp only [List.length_take] at hj
    rw [List.getElem_take] at e
    have := rising_lt hris i j (by omega) hi
    rw [List.getD_eq_getElem?_getD, List.getElem?_eq_getElem (show j < (nx g k).length by omega)] at this
    simp only [Option.getD_some] at this
    omega
  funext q
  unfold updF
  by_cases e : q = ((nx g k).getD i 0).toNat
  · rw [if_pos e]
    subst e
    unfold backJ
    rw [hmi, if_neg hnot, if_pos (by rw [take_succ_getD _ 0 i hi]; simp), List.append_nil]
  · rw [if_neg e]
    unfold backJ
    congr 1
    have : (q : Int) ∈ (nx g k).take (i + 1) ↔ (q : Int) ∈ (nx g k).take i := by
      rw [take_succ_getD _ 0 i hi, List.mem_append, List.mem_singleton]
      constructor
      · rintro (h | h)
        · exact h
        · exfalso; omega
      · exact .inl
    by_cases h : (q : Int) ∈ (nx g k).take i
    · rw [if_pos h, if_pos (this.2 h)]
    · rw [if_neg h, if_neg fun h' => h (this.1 h')]
theorem backI_len (g : Gm) (k q : Nat) : (backI g k q).length ≤ k := by
  have := List.length_filter_le (fun j : Int => decide ((q : Int) ∈ nx g j.toNat)) (allN k)
  rw [allN_len] at this; exact this
theorem backJ_len (g : Gm) (k i q : Nat) : (backJ g k i q).length ≤ k + 1 := by
  have := backI_len g k q
  unfold backJ
  split <;> simp <;> omega
theorem backs_eq (g : Gm) (q : Nat) (h : q < g.n) : (backs g).getD q [] = backI g g.n q := backs_at g q h

/-! ### What the search holds -/
theorem nodup_len : ∀ (n : Nat) (l : List Int), l.Nodup → (∀ x ∈ l, 0 ≤ x ∧ x < n) → l.length ≤ n
  | 0, l, _, h => by
    cases l with
    | nil => simp
    | cons a l => have := h a (by simp); omega
  | n + 1, l, hn, h => by
    have ih := nodup_len n (l.filter fun x => decide (x ≠ n)) (hn.sublist List.filter_sublist) (fun x hx => by
      simp only [List.mem_filter, decide_eq_true_eq] at hx
      have := h x hx.1
      omega)
    have e := List.length_eq_countP_add_countP (fun x : Int => decide (x ≠ n)) (l := l)
    rw [← List.countP_eq_length_filter] at ih
    have h1 : l.countP (fun a => decide ¬ (decide (a ≠ (n : Int)) = true)) ≤ 1 := by
      have e2 : l.countP (fun a => decide ¬ (decide (a ≠ (n : Int)) = true)) = l.count (n : Int) := by
        unfold List.count
        refine List.countP_congr fun x _ => ?_
        simp
      rw [e2]
      by_cases hm : (n : Int) ∈ l
      · rw [count_one hn hm]; exact Nat.le_refl _
      · rw [List.count_eq_zero_of_not_mem hm]; exact Nat.zero_le _
    omega
theorem edges_succ (B : List (List Int)) (now : List Int) (a : Nat) (h : a < now.length) : edges B (now.take (a + 1)) = edges B (now.take a) ++ B.getD (now.getD a 0).toNat [] := by
  unfold edges
  rw [take_succ_getD now 0 a h, List.flatMap_append]; simp
def layAt (g : Gm) (i : Nat) (a b : Nat) : List Int × List Int × List Int :=
  lay g ((i + 1 : Nat) : Int) ((bst g i).1, (bst g i).2.1, []) (edges (backs g) ((bst g i).2.2.take a) ++ ((backs g).getD ((bst g i).2.2.getD a 0).toNat []).take b)
theorem layAt_zero (g : Gm) (i : Nat) : layAt g i 0 0 = ((bst g i).1, (bst g i).2.1, []) := by simp [layAt, edges, lay]
theorem layAt_next (g : Gm) (i a : Nat) (h : a < (bst g i).2.2.length) : layAt g i a ((backs g).getD ((bst g i).2.2.getD a 0).toNat []).length = layAt g i (a + 1) 0 := by
  unfold layAt
  rw [List.take_length, edges_succ _ _ _ h, List.take_zero, List.append_nil]
theorem layAt_end (g : Gm) (i : Nat) : layAt g i (bst g i).2.2.length 0 = bst g (i + 1) := by
  unfold layAt
  rw [List.take_length, List.take_zero, List.append_nil]; rfl
theorem layAt_succ (g : Gm) (i a b : Nat) (h : b < ((backs g).getD ((bst g i).2.2.getD a 0).toNat []).length) :
    layAt g i a (b + 1) = upd1 g ((i + 1 : Nat) : Int) (layAt g i a b) (((backs g).getD ((bst g i).2.2.getD a 0).toNat []).getD b 0) := by
  unfold layAt
  rw [take_succ_getD _ 0 b h, ← List.append_assoc, lay_one]
theorem now_in (g : Gm) (hv : restG g) (hs : sizeG g) (i : Nat) : (∀ x ∈ (bst g i).2.2, 0 ≤ x ∧ x < g.n) ∧ (bst g i).2.2.length ≤ g.n := by
  obtain ⟨_, _, h3, h4⟩ := bst_ok g hv hs i
  have h : ∀ x ∈ (bst g i).2.2, 0 ≤ x ∧ x < g.n := fun x hx => by have := (h4 x).1 hx; omega
  exact ⟨h, nodup_len _ _ h3 h⟩
theorem layAt_sub (g : Gm) (i a b : Nat) (ha : a < (bst g i).2.2.length) : (edges (backs g) ((bst g i).2.2.take a) ++ ((backs g).getD ((bst g i).2.2.getD a 0).toNat []).take b).Sublist (edges (backs g) (bst g i).2.2) := by
  have h1 : (edges (backs g) ((bst g i).2.2.take a) ++ ((backs g).getD ((bst g i).2.2.getD a 0).toNat []).take b).Sublist (edges (backs g) ((bst g i).2.2.take (a + 1))) := by
    rw [edges_succ _ _ _ ha]
    exact List.Sublist.append (List.Sublist.refl _) (List.take_sublist _ _)
  refine h1.trans ?_
  have e : edges (backs g) (bst g i).2.2 = edges (backs g) ((bst g i).2.2.take (a + 1)) ++ edges (backs g) ((bst g i).2.2.drop (a + 1)) := by
    unfold edges
    rw [← List.flatMap_append, List.take_append_drop]
  rw [e]
  exact List.sublist_append_left _ _
theorem layAt_len (g : Gm) (hv : restG g) (hs : sizeG g) (i a b : Nat) (ha : a < (bst g i).2.2.length) : (layAt g i a b).1.length = g.n ∧ (layAt g i a b).2.1.length = g.n ∧ (layAt g i a b).2.2.length ≤ g.n := by
  have hb := bst_ok g hv hs i
  have hsub := layAt_sub g i a b ha
  have hin := edges_in g _ (now_in g hv hs i).1
  obtain ⟨nxt, e1, e2, e3⟩ := lay_spec g (i + 1) (F g (i + 1)) (lfF g i) (fun k hk => lfF_le g hv hs i k hk) _ _ rfl (fun k hk => hin k (hsub.subset hk)) (fun k hk => by
    have h1 := hsub.count_le (a := (k : Int))
    rw [count_now g hv i _ hb k hk] at h1
    have h2 := lf_split g i k
    have : 0 ≤ lfF g (i + 1) k := by unfold lfF; omega
    omega)
  have e : layAt g i a b = lay g ((i + 1 : Nat) : Int) (tab (F g (i + 1)) g.n, tab (lfF g i) g.n, []) (edges (backs g) ((bst g i).2.2.take a) ++ ((backs g).getD ((bst g i).2.2.getD a 0).toNat []).take b) := by
    unfold layAt; rw [hb.1, hb.2.1]
  rw [e, e1]
  exact ⟨tab_len _ _, tab_len _ _, nodup_len _ _ e2 fun x hx => by have := (e3 x).1 hx; omega⟩
theorem bst_len (g : Gm) (hv : restG g) (hs : sizeG g) (i : Nat) : (bst g i).1.length = g.n ∧ (bst g i).2.1.length = g.n := by
  obtain ⟨h1, h2, _, _⟩ := bst_ok g hv hs i
  rw [h1, h2]; exact ⟨tab_len _ _, tab_len _ _⟩
end
end Go.Ab.G
