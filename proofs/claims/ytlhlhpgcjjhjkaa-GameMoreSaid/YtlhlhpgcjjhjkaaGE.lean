/- Contracts of functions of this chapter, for every argument that fits, and what they need. -/
import Derived.Test.YtlhlhpgcjjhjkaaGD
set_option linter.unusedSimpArgs false
set_option linter.unusedVariables false
namespace Go.Ab.G
open Go Go.RowKit
open Classical
noncomputable section
set_option linter.unusedSimpArgs false
set_option linter.unusedVariables false

/-! ### One edge more -/
def edgeL (g : Gm) (k m : Nat) (n : Nat) : List Int := (allN n).filter fun i => decide (i = (m : Int) ∨ i ∈ nx g k)
def moreG (g : Gm) (k m : Nat) : Gm := { g with nxt := g.nxt.set k (edgeL g k m g.n) }
theorem more_n (g : Gm) (k m : Nat) : (moreG g k m).n = g.n := rfl
theorem more_nx (g : Gm) (k m q : Nat) (hk : k < g.nxt.length) : nx (moreG g k m) q = if q = k then edgeL g k m g.n else nx g q := by
  unfold nx moreG
  simp only [List.getD_eq_getElem?_getD, List.getElem?_set]
  by_cases e : k = q
  · subst e; simp [hk]
  · simp [e, Ne.symm e]
theorem edge_mem {g : Gm} (hv : restG g) {k m : Nat} (hk : k < g.n) (hm : m < g.n) {x : Int} : x ∈ edgeL g k m g.n ↔ x = (m : Int) ∨ x ∈ nx g k := by
  unfold edgeL
  rw [List.mem_filter]
  simp only [decide_eq_true_eq]
  constructor
  · exact fun h => h.2
  · intro h
    refine ⟨allN_mem.2 ?_, h⟩
    rcases h with rfl | h
    · omega
    · exact nx_in hv hk h
theorem more_rest {g : Gm} (hv : restG g) {k m : Nat} (hk : k < g.n) (hm : m < g.n) : restG (moreG g k m) := by
  have hkl : k < g.nxt.length := by rw [hv.1]; exact hk
  refine ⟨by show (g.nxt.set _ _).length = g.n; rw [List.length_set]; exact hv.1, hv.2.1, hv.2.2.1, fun q hq => ?_⟩
  have h := hv.2.2.2 q hq
  refine ⟨h.1, ?_, h.2.2⟩
  rw [more_nx g k m q hkl]
  split
  · exact rising_filt _ _
  · exact h.2.1
theorem more_valid {g : Gm} (hv : validF g = 0) {k m : Nat} (hk : k < g.n) (hm : m < g.n) : validF (moreG g k m) = 0 := by
  obtain ⟨h1, h2⟩ := valid_ok hv
  have h3 := more_rest h2 hk hm
  have h4 : sizeG (moreG g k m) := h1
  unfold validF; rw [if_pos h4, if_pos h3]
theorem edge_len (g : Gm) (k m n : Nat) : (edgeL g k m n).length ≤ n := filt_len _ _
theorem more_small {g : Gm} (hs : smallG g) (hv : restG g) {k m : Nat} : smallG (moreG g k m) := by
  obtain ⟨s1, s2, s3, s4, s5⟩ := hs
  refine ⟨s1, by show (g.nxt.set _ _).length < _; rw [List.length_set]; exact s2, s3, s4, fun l hl => ?_⟩
  rcases List.mem_or_eq_of_mem_set hl with h | h
  · exact s5 l h
  · rw [h]; have := edge_len g k m g.n; have e : g.n = g.own.length := rfl; omega
/-- An order of the games: what one wins in a round, the other does. -/
theorem F_more {g g' : Gm} (hn : g.n = g'.n) (h : ∀ (S T : Nat → Prop) (q : Nat), q < g.n → (∀ p, p < g.n → S p → T p) → win g S q → win g' T q) (hv : restG g) : ∀ (r q : Nat), q < g.n → 0 ≤ F g r q → 0 ≤ F g' r q
  | 0, q, _, h0 => by simp [F] at h0
  | r + 1, q, hq, h0 => by
    rw [F_win] at h0 ⊢
    exact h _ _ q hq (fun p hp hs => F_more hn h hv r p hp hs) h0
theorem rk_more {g g' : Gm} (hn : g.n = g'.n) (h : ∀ (S T : Nat → Prop) (q : Nat), q < g.n → (∀ p, p < g.n → S p → T p) → win g S q → win g' T q) (hv : restG g) {q : Nat} (hq : q < g.n) (h0 : 0 ≤ rk g q) : 0 ≤ rk g' q ∧ rk g' q ≤ rk g q := by
  obtain ⟨i, e1, e2, e3, e4⟩ := F_at g (s := g.n) (k := q) h0
  have h1 : 0 ≤ F g' (i + 1) q := F_more hn h hv (i + 1) q hq (by omega)
  have h2 := F_range g' (i + 1) q
  have h3 := F_keep g' h1 g'.n (by omega)
  have e : rk g' q = F g' (i + 1) q := h3
  have e' : rk g q = i := e1
  omega
theorem more_planner {g : Gm} (hv : restG g) {k m : Nat} (hk : k < g.n) (hm : m < g.n) (ho : ow g k = 0) {q : Nat} (hq : q < g.n) (h0 : 0 ≤ rk g q) : 0 ≤ rk (moreG g k m) q ∧ rk (moreG g k m) q ≤ rk g q := by
  have hkl : k < g.nxt.length := by rw [hv.1]; exact hk
  refine rk_more (g := g) (g' := moreG g k m) rfl (fun S T p hp hST hw => ?_) hv hq h0
  rcases hw with hw | ⟨hb, ⟨o0, x, hx, hs⟩ | ⟨o1, hne, hall⟩⟩
  · exact .inl hw
  · refine .inr ⟨hb, .inl ⟨o0, x, ?_, hST _ (by have := nx_in hv hp hx; omega) hs⟩⟩
    rw [more_nx g k m p hkl]
    split
    · subst_vars; exact (edge_mem hv hp hm).2 (.inr hx)
    · exact hx
  · have hpk : p ≠ k := fun e => by rw [e] at o1; omega
    have e : nx (moreG g k m) p = nx g p := by rw [more_nx g k m p hkl, if_neg hpk]
    exact .inr ⟨hb, .inr ⟨o1, by rw [e]; exact hne, fun x hx => by rw [e] at hx; exact hST _ (by have := nx_in hv hp hx; omega) (hall x hx)⟩⟩
theorem more_faults {g : Gm} (hv : restG g) {k m : Nat} (hk : k < g.n) (hm : m < g.n) (ho : ow g k = 1) (hne : nx g k ≠ []) {q : Nat} (hq : q < g.n) (h0 : 0 ≤ rk (moreG g k m) q) : 0 ≤ rk g q ∧ rk g q ≤ rk (moreG g k m) q := by
  have hkl : k < g.nxt.length := by rw [hv.1]; exact hk
  have hv' := more_rest hv hk hm
  refine rk_more (g := moreG g k m) (g' := g) rfl (fun S T p hp hST hw => ?_) hv' hq h0
  have hp' : p < g.n := hp
  rcases hw with hw | ⟨hb, ⟨o0, x, hx, hs⟩ | ⟨o1, hne', hall⟩⟩
  · exact .inl hw
  · have hpk : p ≠ k := fun e => by rw [e] at o0; have : ow (moreG g k m) k = ow g k := rfl; omega
    have e : nx (moreG g k m) p = nx g p := by rw [more_nx g k m p hkl, if_neg hpk]
    rw [e] at hx
    exact .inr ⟨hb, .inl ⟨o0, x, hx, hST _ (by have := nx_in hv hp' hx; show _ < g.n; omega) hs⟩⟩
  · refine .inr ⟨hb, .inr ⟨o1, ?_, fun x hx => hST _ (by have := nx_in hv hp' hx; show _ < g.n; omega) (hall x ?_)⟩⟩
    · by_cases e : p = k
      · rw [e]; exact hne
      · rw [more_nx g k m p hkl, if_neg e] at hne'; exact hne'
    · rw [more_nx g k m p hkl]
      split
      · subst_vars; exact (edge_mem hv hp' hm).2 (.inr hx)
      · exact hx
theorem edge_succ (g : Gm) (k m n : Nat) : edgeL g k m (n + 1) = edgeL g k m n ++ (if (n : Int) = (m : Int) ∨ (n : Int) ∈ nx g k then [(n : Int)] else []) := filt_succ _ _
end
end Go.Ab.G
