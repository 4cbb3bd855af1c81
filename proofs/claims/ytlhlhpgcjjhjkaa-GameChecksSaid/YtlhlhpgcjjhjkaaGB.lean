/- Contracts of functions of this chapter, for every argument that fits, and what they need. -/
import Derived.Test.YtlhlhpgcjjhjkaaGM
set_option linter.unusedSimpArgs false
set_option linter.unusedVariables false
namespace Go.Ab.G
open Classical
noncomputable section
set_option linter.unusedSimpArgs false
set_option linter.unusedVariables false

def allN (n : Nat) : List Int := (List.range n).map fun i : Nat => (i : Int)
theorem allN_mem {n : Nat} {x : Int} : x ∈ allN n ↔ 0 ≤ x ∧ x < n := by
  simp only [allN, List.mem_map, List.mem_range]
  constructor
  · rintro ⟨i, h, rfl⟩; omega
  · rintro ⟨h1, h2⟩; exact ⟨x.toNat, by omega, by omega⟩
theorem allN_nodup (n : Nat) : (allN n).Nodup := by
  exact List.pairwise_map.2 (List.nodup_range.imp fun h e => h (Int.ofNat_inj.1 e))
theorem count_one {l : List Int} (h : l.Nodup) {a : Int} (ha : a ∈ l) : l.count a = 1 := by
  induction l with
  | nil => cases ha
  | cons b l ih =>
    obtain ⟨h1, h2⟩ := List.nodup_cons.1 h
    by_cases e : b = a
    · subst e; rw [List.count_cons_self, List.count_eq_zero_of_not_mem h1]
    · rw [List.count_cons_of_ne e]
      rcases List.mem_cons.1 ha with rfl | ha
      · exact absurd rfl e
      · exact ih h2 ha
def backs (g : Gm) : List (List Int) := (List.range g.n).map fun m : Nat => (allN g.n).filter fun k => decide ((m : Int) ∈ nx g k.toNat)
theorem backs_len (g : Gm) : (backs g).length = g.n := by simp [backs]
theorem backs_at (g : Gm) (m : Nat) (h : m < g.n) : (backs g).getD m [] = (allN g.n).filter fun k => decide ((m : Int) ∈ nx g k.toNat) := by
  simp [backs, List.getD_eq_getElem?_getD, h]

/-! ### One layer -/
def upd1 (g : Gm) (r : Int) (s : List Int × List Int × List Int) (k : Int) : List Int × List Int × List Int :=
  if s.1.getD k.toNat 0 < 0 ∧ k ∉ g.bad ∧ (ow g k.toNat = 0 ∨ IntKind.i64.wrap (s.2.1.getD k.toNat 0 - 1) = 0)
  then (s.1.set k.toNat r, s.2.1.set k.toNat (IntKind.i64.wrap (s.2.1.getD k.toNat 0 - 1)), s.2.2 ++ [k])
  else (s.1, s.2.1.set k.toNat (IntKind.i64.wrap (s.2.1.getD k.toNat 0 - 1)), s.2.2)
def lay (g : Gm) (r : Int) (s : List Int × List Int × List Int) (E : List Int) : List Int × List Int × List Int := E.foldl (upd1 g r) s
theorem lay_app (g : Gm) (r : Int) (s : List Int × List Int × List Int) (E E' : List Int) : lay g r s (E ++ E') = lay g r (lay g r s E) E' := List.foldl_append
theorem lay_one (g : Gm) (r : Int) (s : List Int × List Int × List Int) (E : List Int) (k : Int) : lay g r s (E ++ [k]) = upd1 g r (lay g r s E) k := by rw [lay_app]; rfl
def hit (g : Gm) (lf : Nat → Int) (pre : List Int) (k : Nat) : Prop := (k : Int) ∈ pre ∧ (k : Int) ∉ g.bad ∧ (ow g k = 0 ∨ lf k = (pre.count (k : Int) : Nat))
theorem lay_spec (g : Gm) (r : Nat) (rnk lf : Nat → Int) (hlf : ∀ k, k < g.n → lf k ≤ 4096) : ∀ (L : Nat) (E : List Int), E.length = L → (∀ k ∈ E, 0 ≤ k ∧ k < g.n) → (∀ k : Nat, k < g.n → (E.count (k : Int) : Int) ≤ lf k) →
    ∃ nxt : List Int, lay g r (tab rnk g.n, tab lf g.n, []) E = (tab (fun k => if 0 ≤ rnk k then rnk k else if hit g lf E k then (r : Int) else rnk k) g.n, tab (fun k => lf k - (E.count (k : Int) : Nat)) g.n, nxt) ∧
      nxt.Nodup ∧ ∀ x, x ∈ nxt ↔ (0 ≤ x ∧ x < g.n ∧ rnk x.toNat < 0 ∧ hit g lf E x.toNat) := by
  intro L
  induction L with
  | zero =>
    intro E hE _ _
    obtain rfl := List.length_eq_zero_iff.1 hE
    refine ⟨[], ?_, List.nodup_nil, fun x => ?_⟩
    · simp [lay, hit]
    · simp [hit]
  | succ L ih =>
    intro E hE hin hcnt
    have hne : E ≠ [] := by intro h; rw [h] at hE; exact absurd hE (by simp)
    obtain ⟨pre, k, rfl⟩ : ∃ pre k, E = pre ++ [k] := ⟨E.dropLast, E.getLast hne, (List.dropLast_concat_getLast hne).symm⟩
    clear hne
    have hpl : pre.length = L := by simp at hE; exact hE
    have hcount : ∀ q : Nat, (pre ++ [k]).count (q : Int) = pre.count (q : Int) + if k = (q : Int) then 1 else 0 := fun q => by
      rw [List.count_append]
      congr 1
      by_cases e : k = (q : Int)
      · subst e; rw [if_pos rfl, List.count_cons_self]; rfl
      · rw [if_neg e, List.count_cons_of_ne e]; rfl
    obtain ⟨nxt, e1, e2, e3⟩ := ih pre hpl (fun q hq => hin q (by simp [hq])) (fun q hq => by have := hcnt q hq; rw [hcount] at this; split at this <;> omega)
    obtain ⟨k0, k1⟩ := hin k (by simp)
    obtain ⟨p, rfl⟩ : ∃ p : Nat, k = p := ⟨k.toNat, by omega⟩
    have hp : p < g.n := by omega
    have hcp := hcnt p hp
    rw [hcount, if_pos rfl] at hcp
    have hlp := hlf p hp
    rw [lay_one, e1]
    unfold upd1
    simp only [Int.toNat_natCast]
    rw [tab_at _ _ _ hp, tab_at _ _ _ hp]
    have hw : IntKind.i64.wrap (lf p - (pre.count (p : Int) : Nat) - 1) = lf p - ((pre ++ [(p : Int)]).count (p : Int) : Nat) := by
      rw [hcount, if_pos rfl, IntKind.wrap_i64]; omega
    rw [hw]
    have hleft : (tab (fun k => lf k - (pre.count (k : Int) : Nat)) g.n).set p (lf p - ((pre ++ [(p : Int)]).count (p : Int) : Nat)) = tab (fun k => lf k - ((pre ++ [(p : Int)]).count (k : Int) : Nat)) g.n := by
      refine tab_eq (by simp [tab_len]) fun q hq => ?_
      rw [getD_set _ _ _ _ (by rw [tab_len]; exact hp)]
      split
      · subst_vars; rfl
      · rename_i hne
        rw [tab_at _ _ _ hq, hcount, if_neg (by omega)]; omega
    have hoth : ∀ q : Nat, q ≠ p → (hit g lf (pre ++ [(p : Int)]) q ↔ hit g lf pre q) := fun q hne => by
      unfold hit
      rw [hcount, if_neg (by omega)]
      simp only [List.mem_append, List.mem_singleton, Nat.add_zero]
      constructor
      · rintro ⟨h | h, h2⟩
        · exact ⟨h, h2⟩
        · omega
      · rintro ⟨h, h2⟩; exact ⟨.inl h, h2⟩
    have hself : rnk p < 0 → hit g lf pre p → hit g lf (pre ++ [(p : Int)]) p := fun _ h => by
      unfold hit at h ⊢
      refine ⟨by simp, h.2.1, ?_⟩
      rcases h.2.2 with h | h
      · exact .inl h
      · omega
    have hnow : hit g lf (pre ++ [(p : Int)]) p ↔ ((p : Int) ∉ g.bad ∧ (ow g p = 0 ∨ lf p - ((pre ++ [(p : Int)]).count (p : Int) : Nat) = 0)) := by
      unfold hit
      constructor
      · rintro ⟨_, h1, h2⟩; exact ⟨h1, h2.imp id fun h => by omega⟩
      · rintro ⟨h1, h2⟩; exact ⟨by simp, h1, h2.imp id fun h => by omega⟩
    by_cases hr0 : 0 ≤ rnk p
    · -- it had a rank before
      rw [if_pos hr0, if_neg (by omega), hleft]
      refine ⟨nxt, ?_, e2, fun x => ?_⟩
      · congr 1
        refine tab_congr fun q hq => ?_
        by_cases e : q = p
        · subst e; rw [if_pos hr0, if_pos hr0]
        · by_cases h0 : 0 ≤ rnk q
          · rw [if_pos h0, if_pos h0]
          · rw [if_neg h0, if_neg h0]
            by_cases hh : hit g lf pre q
            · rw [if_pos hh, if_pos ((hoth q e).2 hh)]
            · rw [if_neg hh, if_neg fun h => hh ((hoth q e).1 h)]
      · rw [e3]
        constructor
        · rintro ⟨h1, h2, h3, h4⟩
          exact ⟨h1, h2, h3, (hoth _ (by rintro rfl; omega)).2 h4⟩
        · rintro ⟨h1, h2, h3, h4⟩
          exact ⟨h1, h2, h3, (hoth _ (by rintro rfl; omega)).1 h4⟩
    rw [if_neg hr0]
    by_cases hh : hit g lf pre p
    · -- it got its rank within this layer
      rw [if_pos hh, if_neg (by omega), hleft]
      refine ⟨nxt, ?_, e2, fun x => ?_⟩
      · congr 1
        refine tab_congr fun q hq => ?_
        by_cases h0 : 0 ≤ rnk q
        · rw [if_pos h0, if_pos h0]
        · rw [if_neg h0, if_neg h0]
          by_cases e : q = p
          · subst e; rw [if_pos hh, if_pos (hself (by omega) hh)]
          · by_cases hq' : hit g lf pre q
            · rw [if_pos hq', if_pos ((hoth q e).2 hq')]
            · rw [if_neg hq', if_neg fun h => hq' ((hoth q e).1 h)]
      · rw [e3]
        by_cases e : x.toNat = p
        · rw [e]
          exact ⟨fun ⟨h1, h2, h3, h4⟩ => ⟨h1, h2, h3, hself h3 h4⟩, fun ⟨h1, h2, h3, h4⟩ => ⟨h1, h2, h3, hh⟩⟩
        · exact ⟨fun ⟨h1, h2, h3, h4⟩ => ⟨h1, h2, h3, (hoth _ e).2 h4⟩, fun ⟨h1, h2, h3, h4⟩ => ⟨h1, h2, h3, (hoth _ e).1 h4⟩⟩
    rw [if_neg hh]
    by_cases hn : hit g lf (pre ++ [(p : Int)]) p
    · -- it gets its rank now
      rw [if_pos ⟨by omega, (hnow.1 hn)⟩, hleft]
      refine ⟨nxt ++ [(p : Int)], ?_, ?_, fun x => ?_⟩
      · congr 1
        refine tab_eq (by simp [tab_len]) fun q hq => ?_
        rw [getD_set _ _ _ _ (by rw [tab_len]; exact hp)]
        split
        · subst_vars; rw [if_neg hr0, if_pos hn]
        · rename_i hne
          rw [tab_at _ _ _ hq]
          by_cases h0 : 0 ≤ rnk q
          · rw [if_pos h0, if_pos h0]
          · rw [if_neg h0, if_neg h0]
            by_cases hq' : hit g lf pre q
            · rw [if_pos hq', if_pos ((hoth q (Ne.symm hne)).2 hq')]
            · rw [if_neg hq', if_neg fun h => hq' ((hoth q (Ne.symm hne)).1 h)]
      · rw [List.nodup_append]
        refine ⟨e2, by simp, fun a ha b hb e => ?_⟩
        simp only [List.mem_singleton] at hb
        subst hb; subst e
        exact hh ((e3 _).1 ha).2.2.2
      · simp only [List.mem_append, List.mem_singleton]
        rw [e3]
        by_cases e : x.toNat = p
        · rw [e]
          constructor
          · rintro (⟨h1, h2, h3, h4⟩ | rfl)
            · exact absurd h4 hh
            · exact ⟨by omega, by omega, by omega, hn⟩
          · rintro ⟨h1, h2, h3, h4⟩; right; omega
        · constructor
          · rintro (⟨h1, h2, h3, h4⟩ | rfl)
            · exact ⟨h1, h2, h3, (hoth _ e).2 h4⟩
            · simp at e
          · rintro ⟨h1, h2, h3, h4⟩; exact .inl ⟨h1, h2, h3, (hoth _ e).1 h4⟩
    · -- it gets none
      rw [if_neg (fun h => hn (hnow.2 h.2)), hleft]
      refine ⟨nxt, ?_, e2, fun x => ?_⟩
      · congr 1
        refine tab_congr fun q hq => ?_
        by_cases h0 : 0 ≤ rnk q
        · rw [if_pos h0, if_pos h0]
        · rw [if_neg h0, if_neg h0]
          by_cases e : q = p
          · subst e; rw [if_neg hh, if_neg hn]
          · by_cases hq' : hit g lf pre q
            · rw [if_pos hq', if_pos ((hoth q e).2 hq')]
            · rw [if_neg hq', if_neg fun h => hq' ((hoth q e).1 h)]
      · rw [e3]
        by_cases e : x.toNat = p
        · rw [e]
          exact ⟨fun ⟨h1, h2, h3, h4⟩ => absurd h4 hh, fun ⟨h1, h2, h3, h4⟩ => absurd h4 hn⟩
        · exact ⟨fun ⟨h1, h2, h3, h4⟩ => ⟨h1, h2, h3, (hoth _ e).2 h4⟩, fun ⟨h1, h2, h3, h4⟩ => ⟨h1, h2, h3, (hoth _ e).1 h4⟩⟩

/-! ### All layers -/
def edges (B : List (List Int)) (now : List Int) : List Int := now.flatMap fun m => B.getD m.toNat []
def lfF (g : Gm) (i k : Nat) : Int := ((nx g k).countP fun m => decide (F g i m.toNat < 0) : Nat)
theorem cnt_split (p q r : Int → Bool) : ∀ l : List Int, (∀ m ∈ l, (p m = true ↔ (q m = true ∨ r m = true)) ∧ ¬ (q m = true ∧ r m = true)) → l.countP p = l.countP q + l.countP r
  | [], _ => rfl
  | a :: l, h => by
    have ih := cnt_split p q r l fun m hm => h m (by simp [hm])
    obtain ⟨h1, h2⟩ := h a (by simp)
    simp only [List.countP_cons]
    rw [ih]
    by_cases hp : p a = true <;> by_cases hq : q a = true <;> by_cases hr : r a = true <;> simp [hp, hq, hr] at h1 h2 ⊢ <;> omega
theorem count_edges (g : Gm) (hv : restG g) (now : List Int) (hn : now.Nodup) (hin : ∀ x ∈ now, 0 ≤ x ∧ x < g.n) (k : Nat) (hk : k < g.n) : (edges (backs g) now).count (k : Int) = (nx g k).countP fun m => decide (m ∈ now) := by
  have h1 : ∀ l : List Int, (∀ x ∈ l, 0 ≤ x ∧ x < g.n) → (edges (backs g) l).count (k : Int) = l.countP fun m => decide (m ∈ nx g k) := by
    intro l
    induction l with
    | nil => intro _; rfl
    | cons a l ih =>
      intro hl
      have ha := hl a (by simp)
      have e : edges (backs g) (a :: l) = (backs g).getD a.toNat [] ++ edges (backs g) l := rfl
      rw [e, List.count_append, ih fun x hx => hl x (by simp [hx]), List.countP_cons, backs_at g _ (by omega)]
      have e2 : ((a.toNat : Nat) : Int) = a := by omega
      rw [e2]
      by_cases hm : a ∈ nx g k
      · have hmem : (k : Int) ∈ (allN g.n).filter fun k => decide (a ∈ nx g k.toNat) := by
          rw [List.mem_filter]; exact ⟨allN_mem.2 (by omega), by simpa using hm⟩
        rw [count_one ((allN_nodup _).sublist List.filter_sublist) hmem]
        simp [hm]; omega
      · have hmem : (k : Int) ∉ (allN g.n).filter fun k => decide (a ∈ nx g k.toNat) := by
          rw [List.mem_filter]; rintro ⟨_, h⟩; exact hm (by simpa using h)
        rw [List.count_eq_zero_of_not_mem hmem]
        simp [hm]
  rw [h1 now hin, List.countP_eq_length_filter, List.countP_eq_length_filter]
  have hnk : (nx g k).Nodup := rising_nodup (hv.2.2.2 k hk).2.1
  have hperm : (now.filter fun m => decide (m ∈ nx g k)).Perm ((nx g k).filter fun m => decide (m ∈ now)) := by
    rw [List.perm_ext_iff_of_nodup (hn.sublist List.filter_sublist) (hnk.sublist List.filter_sublist)]
    intro x
    simp only [List.mem_filter, decide_eq_true_eq]
    exact And.comm
  exact hperm.length_eq
def BfsOk (g : Gm) (i : Nat) (s : List Int × List Int × List Int) : Prop :=
  s.1 = tab (F g (i + 1)) g.n ∧ s.2.1 = tab (lfF g i) g.n ∧ s.2.2.Nodup ∧ ∀ x, x ∈ s.2.2 ↔ (0 ≤ x ∧ x < g.n ∧ F g (i + 1) x.toNat = i)
theorem lfF_le (g : Gm) (hv : restG g) (hs : sizeG g) (i k : Nat) (hk : k < g.n) : lfF g i k ≤ 4096 := by
  have h1 := rising_len (hv.2.2.2 k hk).2.1
  have h2 : (nx g k).countP (fun m => decide (F g i m.toNat < 0)) ≤ (nx g k).length := List.countP_le_length
  have := hs.2
  unfold lfF; omega
theorem nx_in {g : Gm} (hv : restG g) {k : Nat} (hk : k < g.n) {m : Int} (hm : m ∈ nx g k) : 0 ≤ m ∧ m < g.n := rising_mem (hv.2.2.2 k hk).2.1 hm
theorem count_now (g : Gm) (hv : restG g) (i : Nat) (s : List Int × List Int × List Int) (h : BfsOk g i s) (k : Nat) (hk : k < g.n) :
    (edges (backs g) s.2.2).count (k : Int) = (nx g k).countP fun m => decide (F g (i + 1) m.toNat = i) := by
  obtain ⟨_, _, h3, h4⟩ := h
  rw [count_edges g hv s.2.2 h3 (fun x hx => by have := (h4 x).1 hx; omega) k hk]
  refine List.countP_congr fun m hm => ?_
  have := nx_in hv hk hm
  simp only [decide_eq_true_eq]
  rw [h4]
  exact ⟨fun h => h.2.2, fun h => ⟨this.1, this.2, h⟩⟩
theorem lf_split (g : Gm) (i k : Nat) : lfF g i k = lfF g (i + 1) k + ((nx g k).countP fun m => decide (F g (i + 1) m.toNat = i) : Nat) := by
  unfold lfF
  rw [cnt_split (fun m => decide (F g i m.toNat < 0)) (fun m => decide (F g (i + 1) m.toNat < 0)) (fun m => decide (F g (i + 1) m.toNat = i)) (nx g k) fun m _ => ?_]
  · omega
  simp only [decide_eq_true_eq]
  have h1 := F_range g i m.toNat
  have h2 := F_range g (i + 1) m.toNat
  have h3 : 0 ≤ F g i m.toNat → F g (i + 1) m.toNat = F g i m.toNat := fun h => F_keep g h _ (by omega)
  refine ⟨⟨fun h => ?_, fun h => ?_⟩, fun h => by omega⟩
  · by_cases h0 : 0 ≤ F g (i + 1) m.toNat
    · right
      rw [F_new g h] at h0 ⊢
      split at h0
      · rename_i hw; rw [if_pos hw]
      · omega
    · left; omega
  · by_cases h0 : 0 ≤ F g i m.toNat
    · have := h3 h0; omega
    · omega
theorem edges_in (g : Gm) (now : List Int) (hin : ∀ x ∈ now, 0 ≤ x ∧ x < g.n) : ∀ k ∈ edges (backs g) now, 0 ≤ k ∧ k < g.n := by
  intro k hk
  simp only [edges, List.mem_flatMap] at hk
  obtain ⟨m, hm, hk⟩ := hk
  have := hin m hm
  rw [backs_at g _ (by omega), List.mem_filter] at hk
  exact allN_mem.1 hk.1
theorem hit_iff (g : Gm) (hv : restG g) (i : Nat) (s : List Int × List Int × List Int) (h : BfsOk g i s) (k : Nat) (hk : k < g.n) (hF : F g (i + 1) k < 0) :
    hit g (lfF g i) (edges (backs g) s.2.2) k ↔ win g (fun m => 0 ≤ F g (i + 1) m) k := by
  have hc := count_now g hv i s h k hk
  have hsp := lf_split g i k
  obtain ⟨hown, hris, hgb⟩ := hv.2.2.2 k hk
  have hng : (k : Int) ∉ g.goal := fun hg => by
    have := (F_win g i k).2 (.inl hg); omega
  have hnear : (k : Int) ∈ edges (backs g) s.2.2 ↔ ∃ m ∈ nx g k, F g (i + 1) m.toNat = i := by
    rw [← List.count_pos_iff, hc, List.countP_pos_iff]
    simp
  have hno : ∀ j, j ≤ i → ¬ win g (fun m => 0 ≤ F g j m) k := fun j hj hw => by
    have := (F_win g j k).2 hw
    rw [F_keep g this (i + 1) (by omega)] at hF; omega
  have hz : lfF g (i + 1) k = 0 ↔ ∀ m ∈ nx g k, 0 ≤ F g (i + 1) m.toNat := by
    unfold lfF
    rw [Int.natCast_eq_zero, List.countP_eq_zero]
    simp
  have hnew : ∀ m : Int, 0 ≤ F g (i + 1) m.toNat → F g (i + 1) m.toNat ≠ i → 0 ≤ F g i m.toNat := fun m h0 hne => by
    obtain ⟨j, f1, f2, f3, f4⟩ := F_at g h0
    rw [F_keep g (r := j + 1) (k := m.toNat) (by omega) i (by omega)]; omega
  unfold hit
  rw [hnear, hc]
  constructor
  · rintro ⟨⟨m, h1, h2⟩, h3, h4⟩
    rcases hown with ho | ho
    · exact .inr ⟨h3, .inl ⟨ho, m, h1, by omega⟩⟩
    · refine .inr ⟨h3, .inr ⟨ho, List.ne_nil_of_mem h1, ?_⟩⟩
      exact hz.1 (by omega)
  · rintro (hw | ⟨h3, ⟨ho, m, h1, h2⟩ | ⟨ho, h1, h2⟩⟩)
    · exact absurd hw hng
    · refine ⟨⟨m, h1, ?_⟩, h3, .inl ho⟩
      exact Classical.byContradiction fun hne => hno i (by omega) (.inr ⟨h3, .inl ⟨ho, m, h1, hnew m h2 hne⟩⟩)
    · refine ⟨?_, h3, .inr ?_⟩
      · exact Classical.byContradiction fun hne => hno i (by omega) (.inr ⟨h3, .inr ⟨ho, h1, fun m hm => hnew m (h2 m hm) fun e => hne ⟨m, hm, e⟩⟩⟩)
      · have := hz.2 h2; omega
/-- A layer is a round. -/
theorem layer_ok (g : Gm) (hv : restG g) (hs : sizeG g) (i : Nat) (s : List Int × List Int × List Int) (h : BfsOk g i s) : BfsOk g (i + 1) (lay g ((i + 1 : Nat) : Int) (s.1, s.2.1, []) (edges (backs g) s.2.2)) := by
  have hin : ∀ x ∈ s.2.2, 0 ≤ x ∧ x < g.n := fun x hx => by have := (h.2.2.2 x).1 hx; omega
  obtain ⟨nxt, e1, e2, e3⟩ := lay_spec g (i + 1) (F g (i + 1)) (lfF g i) (fun k hk => lfF_le g hv hs i k hk) _ (edges (backs g) s.2.2) rfl (edges_in g _ hin) (fun k hk => by
    rw [count_now g hv i s h k hk, lf_split g i k]
    have : 0 ≤ lfF g (i + 1) k := by unfold lfF; omega
    omega)
  rw [h.1, h.2.1, e1]
  refine ⟨tab_congr fun k hk => ?_, tab_congr fun k hk => ?_, e2, fun x => ?_⟩
  · by_cases h0 : 0 ≤ F g (i + 1) k
    · rw [if_pos h0, F_keep g h0 (i + 1 + 1) (by omega)]
    · have hm : F g (i + 1) k = -1 := by have := F_range g (i + 1) k; omega
      rw [if_neg h0, F_new g (r := i + 1) (by omega), hm]
      by_cases hh : hit g (lfF g i) (edges (backs g) s.2.2) k
      · rw [if_pos hh, if_pos ((hit_iff g hv i s h k hk (by omega)).1 hh)]
      · rw [if_neg hh, if_neg fun hw => hh ((hit_iff g hv i s h k hk (by omega)).2 hw)]
  · rw [count_now g hv i s h k hk]
    have := lf_split g i k
    omega
  · rw [e3]
    constructor
    · rintro ⟨h1, h2, h3, h4⟩
      have hk : x.toNat < g.n := by omega
      refine ⟨h1, h2, ?_⟩
      rw [F_new g h3, if_pos ((hit_iff g hv i s h _ hk h3).1 h4)]
    · rintro ⟨h1, h2, h3⟩
      have hk : x.toNat < g.n := by omega
      have hlt := F_range g (i + 1) x.toNat
      have h4 : F g (i + 1) x.toNat < 0 := by
        by_cases h0 : 0 ≤ F g (i + 1) x.toNat
        · rw [F_keep g h0 _ (by omega)] at h3; omega
        · omega
      refine ⟨h1, h2, h4, (hit_iff g hv i s h _ hk h4).2 ?_⟩
      rw [← F_win, h3]; omega
def bst (g : Gm) : Nat → List Int × List Int × List Int
  | 0 => (tab (F g 1) g.n, tab (lfF g 0) g.n, (allN g.n).filter fun k => decide (k ∈ g.goal))
  | i + 1 => lay g ((i + 1 : Nat) : Int) ((bst g i).1, (bst g i).2.1, []) (edges (backs g) (bst g i).2.2)
theorem F_one (g : Gm) (k : Nat) : F g 1 k = if (k : Int) ∈ g.goal then 0 else -1 := by
  have hw : win g (fun m => 0 ≤ F g 0 m) k ↔ (k : Int) ∈ g.goal := by
    constructor
    · rintro (h | ⟨_, ⟨_, m, _, h⟩ | ⟨_, h1, h2⟩⟩)
      · exact h
      · simp [F] at h
      · obtain ⟨m, hm⟩ := List.exists_mem_of_ne_nil _ h1
        have := h2 m hm; simp [F] at this
    · exact .inl
  rw [F_new g (by simp [F])]
  by_cases h : (k : Int) ∈ g.goal
  · rw [if_pos (hw.2 h), if_pos h]; rfl
  · rw [if_neg fun e => h (hw.1 e), if_neg h]
theorem bst_ok (g : Gm) (hv : restG g) (hs : sizeG g) : ∀ i, BfsOk g i (bst g i)
  | 0 => by
    refine ⟨rfl, rfl, (allN_nodup _).sublist List.filter_sublist, fun x => ?_⟩
    simp only [bst, List.mem_filter, decide_eq_true_eq, allN_mem]
    constructor
    · rintro ⟨⟨h1, h2⟩, h3⟩
      refine ⟨h1, h2, ?_⟩
      rw [F_one, if_pos (by rw [show ((x.toNat : Nat) : Int) = x by omega]; exact h3)]; rfl
    · rintro ⟨h1, h2, h3⟩
      refine ⟨⟨h1, h2⟩, ?_⟩
      rw [F_one] at h3
      split at h3
      · rename_i h; rw [show ((x.toNat : Nat) : Int) = x by omega] at h; exact h
      · simp at h3
  | i + 1 => layer_ok g hv hs i _ (bst_ok g hv hs i)
/-- When no node is left the ranks are found. -/
theorem bst_end (g : Gm) (hv : restG g) (hs : sizeG g) (i : Nat) (h : (bst g i).2.2 = []) : (bst g i).1 = tab (rk g) g.n := by
  obtain ⟨h1, _, _, h4⟩ := bst_ok g hv hs i
  rw [h1]
  have hst : ∀ k, k < g.n → F g (i + 1) k = F g i k := fun k hk => by
    by_cases h0 : 0 ≤ F g i k
    · exact F_keep g h0 _ (by omega)
    · have hm : F g i k = -1 := by have := F_range g i k; omega
      rw [F_new g (by omega), hm]
      by_cases hw : win g (fun m => 0 ≤ F g i m) k
      · exfalso
        have : ((k : Nat) : Int) ∈ (bst g i).2.2 := (h4 _).2 ⟨by omega, by omega, by rw [Int.toNat_natCast, F_new g (by omega), if_pos hw]⟩
        rw [h] at this; cases this
      · rw [if_neg hw]
  refine tab_congr fun k hk => ?_
  by_cases hin : i ≤ g.n
  · rw [hst k hk]; exact (F_stable hv hst g.n hin k hk).symm
  · exact F_rest hv (i + 1) (by omega) k hk
theorem bst_more (g : Gm) (hv : restG g) (hs : sizeG g) (i : Nat) (h : (bst g i).2.2 ≠ []) : i < g.n := by
  obtain ⟨_, _, _, h4⟩ := bst_ok g hv hs i
  obtain ⟨x, hx⟩ := List.exists_mem_of_ne_nil _ h
  obtain ⟨a1, a2, a3⟩ := (h4 x).1 hx
  have h5 := F_changed hv i ⟨x.toNat, by omega, by have := F_range g i x.toNat; omega⟩
  have h6 := cntF_le g (i + 1) g.n
  omega
end
end Go.Ab.G
