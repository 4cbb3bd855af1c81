/- Contracts of functions of this chapter, for every argument that fits, and what they need. -/
import Derived.Test.YtlhlhpgcjjhjkaaAb4
set_option linter.unusedSimpArgs false
set_option linter.unusedVariables false
namespace Go.Ab.G
open Classical
noncomputable section
set_option linter.unusedSimpArgs false
set_option linter.unusedVariables false

structure Gm where
  own : List Int
  nxt : List (List Int)
  goal : List Int
  bad : List Int
def Gm.n (g : Gm) : Nat := g.own.length
def ow (g : Gm) (k : Nat) : Int := g.own.getD k 0
def nx (g : Gm) (k : Nat) : List Int := g.nxt.getD k []

/-- Strictly increasing, from 0 below n. -/
def rising (l : List Int) (n : Nat) : Prop := ∀ i, i < l.length → 0 ≤ l.getD i 0 ∧ l.getD i 0 < n ∧ (0 < i → l.getD (i - 1) 0 < l.getD i 0)
def nodeOk (g : Gm) (k : Nat) : Prop := (ow g k = 0 ∨ ow g k = 1) ∧ rising (nx g k) g.n ∧ ¬ ((k : Int) ∈ g.goal ∧ (k : Int) ∈ g.bad)
def sizeG (g : Gm) : Prop := g.n ≠ 0 ∧ g.n ≤ 4096
def restG (g : Gm) : Prop := g.nxt.length = g.n ∧ rising g.goal g.n ∧ rising g.bad g.n ∧ ∀ k, k < g.n → nodeOk g k
def validF (g : Gm) : Int := if sizeG g then (if restG g then 0 else 1) else 4
theorem valid_ok {g : Gm} (h : validF g = 0) : sizeG g ∧ restG g := by
  unfold validF at h
  split at h
  · split at h
    · exact ⟨by assumption, by assumption⟩
    · cases h
  · cases h

theorem getD_memG {α : Type} {l : List α} {d : α} {j : Nat} (h : j < l.length) : l.getD j d ∈ l := by
  rw [List.getD_eq_getElem?_getD, List.getElem?_eq_getElem h]; exact List.getElem_mem _
theorem rising_lt {l : List Int} {n : Nat} (h : rising l n) : ∀ j i, i < j → j < l.length → l.getD i 0 < l.getD j 0
  | 0, i, hi, _ => by omega
  | j + 1, i, hi, hj => by
    have h1 := (h (j + 1) hj).2.2 (by omega)
    simp only [Nat.add_sub_cancel] at h1
    by_cases e : i = j
    · subst e; exact h1
    · have := rising_lt h j i (by omega) (by omega); omega
theorem rising_mem {l : List Int} {n : Nat} (h : rising l n) {m : Int} (hm : m ∈ l) : 0 ≤ m ∧ m < n := by
  obtain ⟨i, hi, rfl⟩ := List.getElem_of_mem hm
  have := h i hi
  rw [List.getD_eq_getElem?_getD, List.getElem?_eq_getElem hi] at this
  exact ⟨this.1, this.2.1⟩
theorem rising_nodup {l : List Int} {n : Nat} (h : rising l n) : l.Nodup := by
  refine List.pairwise_iff_getElem.2 fun i j hi hj hij e => ?_
  have := rising_lt h j i hij hj
  simp only [List.getD_eq_getElem?_getD, List.getElem?_eq_getElem hi, List.getElem?_eq_getElem hj, Option.getD_some] at this
  omega
theorem rising_len {l : List Int} {n : Nat} (h : rising l n) : l.length ≤ n := by
  have key : ∀ i, i < l.length → (i : Int) ≤ l.getD i 0 := by
    intro i
    induction i with
    | zero => intro hi; have := (h 0 hi).1; simpa using this
    | succ i ih =>
      intro hi
      have h1 := (h (i + 1) hi).2.2 (by omega)
      simp only [Nat.add_sub_cancel] at h1
      have := ih (by omega)
      omega
  by_cases h0 : l.length = 0
  · omega
  · have h1 := key (l.length - 1) (by omega)
    have h2 := (h (l.length - 1) (by omega)).2.1
    omega

/-! ### Rounds -/
def win (g : Gm) (S : Nat → Prop) (k : Nat) : Prop :=
  (k : Int) ∈ g.goal ∨ ((k : Int) ∉ g.bad ∧ ((ow g k = 0 ∧ ∃ m ∈ nx g k, S m.toNat) ∨ (ow g k = 1 ∧ nx g k ≠ [] ∧ ∀ m ∈ nx g k, S m.toNat)))
theorem win_mono {g : Gm} {S T : Nat → Prop} {k : Nat} (h : ∀ m ∈ nx g k, S m.toNat → T m.toNat) (hw : win g S k) : win g T k := by
  rcases hw with hw | ⟨h1, ⟨h2, m, h3, h4⟩ | ⟨h2, h3, h4⟩⟩
  · exact .inl hw
  · exact .inr ⟨h1, .inl ⟨h2, m, h3, h m h3 h4⟩⟩
  · exact .inr ⟨h1, .inr ⟨h2, h3, fun m hm => h m hm (h4 m hm)⟩⟩
def F (g : Gm) : Nat → Nat → Int
  | 0, _ => -1
  | r + 1, k => if 0 ≤ F g r k then F g r k else if win g (fun m => 0 ≤ F g r m) k then (r : Int) else -1
theorem F_range (g : Gm) : ∀ r k, F g r k = -1 ∨ (0 ≤ F g r k ∧ F g r k < r)
  | 0, k => .inl rfl
  | r + 1, k => by
    have ih := F_range g r k
    simp only [F]
    split
    · right; omega
    · split
      · right; omega
      · left; rfl
theorem F_keep (g : Gm) {r k : Nat} (h : 0 ≤ F g r k) : ∀ s, r ≤ s → F g s k = F g r k := by
  intro s hs
  induction s with
  | zero => obtain rfl : r = 0 := by omega
            rfl
  | succ s ih =>
    by_cases e : r = s + 1
    · rw [e]
    · have := ih (by omega)
      simp only [F]
      rw [this, if_pos h]
theorem F_at (g : Gm) {s k : Nat} (h : 0 ≤ F g s k) : ∃ i : Nat, F g s k = i ∧ i < s ∧ F g i k = -1 ∧ F g (i + 1) k = i := by
  induction s with
  | zero => simp [F] at h
  | succ s ih =>
    by_cases h1 : 0 ≤ F g s k
    · obtain ⟨i, e1, e2, e3, e4⟩ := ih h1
      exact ⟨i, by rw [F_keep g h1 (s + 1) (by omega)]; exact e1, by omega, e3, e4⟩
    · have hm : F g s k = -1 := by have := F_range g s k; omega
      have e : F g (s + 1) k = s := by
        simp only [F] at h ⊢
        rw [if_neg h1] at h ⊢
        by_cases hw : win g (fun m => 0 ≤ F g s m) k
        · rw [if_pos hw]
        · rw [if_neg hw] at h; omega
      exact ⟨s, e, by omega, hm, e⟩
theorem F_new (g : Gm) {r k : Nat} (h : F g r k < 0) : F g (r + 1) k = if win g (fun m => 0 ≤ F g r m) k then (r : Int) else -1 := by
  simp only [F]; rw [if_neg (by omega)]
theorem F_win (g : Gm) (r k : Nat) : 0 ≤ F g (r + 1) k ↔ win g (fun m => 0 ≤ F g r m) k := by
  constructor
  · intro h
    obtain ⟨i, e1, e2, e3, e4⟩ := F_at g h
    have := F_new g (r := i) (k := k) (by omega)
    rw [e4] at this
    have hw : win g (fun m => 0 ≤ F g i m) k := by
      by_cases hw : win g (fun m => 0 ≤ F g i m) k
      · exact hw
      · rw [if_neg hw] at this; omega
    exact win_mono (fun m _ hm => by rw [F_keep g hm r (by omega)]; exact hm) hw
  · intro h
    by_cases h1 : 0 ≤ F g r k
    · rw [F_keep g h1 (r + 1) (by omega)]; exact h1
    · rw [F_new g (by omega), if_pos h]; omega

/-! ### The rounds come to rest -/
def cntF (g : Gm) (r : Nat) : Nat → Nat
  | 0 => 0
  | k + 1 => cntF g r k + if 0 ≤ F g r k then 1 else 0
theorem cntF_le (g : Gm) (r : Nat) : ∀ k, cntF g r k ≤ k
  | 0 => Nat.le_refl _
  | k + 1 => by have := cntF_le g r k; simp only [cntF]; split <;> omega
theorem cntF_mono (g : Gm) (r : Nat) : ∀ k, cntF g r k ≤ cntF g (r + 1) k ∧ ((∃ j, j < k ∧ F g (r + 1) j ≠ F g r j) → cntF g r k < cntF g (r + 1) k)
  | 0 => ⟨Nat.le_refl _, fun ⟨j, hj, _⟩ => by omega⟩
  | k + 1 => by
    obtain ⟨h1, h2⟩ := cntF_mono g r k
    have hk : 0 ≤ F g r k → 0 ≤ F g (r + 1) k := fun h => by rw [F_keep g h (r + 1) (by omega)]; exact h
    simp only [cntF]
    refine ⟨?_, ?_⟩
    · split
      · rename_i h; rw [if_pos (hk h)]; omega
      · split <;> omega
    · rintro ⟨j, hj, hne⟩
      by_cases e : j = k
      · subst e
        have hneg : ¬ 0 ≤ F g r j := fun h => hne (F_keep g h (r + 1) (by omega))
        have hpos : 0 ≤ F g (r + 1) j := by
          have a := F_range g r j
          have b := F_range g (r + 1) j
          omega
        rw [if_neg hneg, if_pos hpos]; omega
      · have := h2 ⟨j, by omega, hne⟩
        split
        · rename_i h; rw [if_pos (hk h)]; omega
        · split <;> omega
theorem F_stable_step {g : Gm} (hv : restG g) {r : Nat} (h : ∀ k, k < g.n → F g (r + 1) k = F g r k) : ∀ k, k < g.n → F g (r + 2) k = F g (r + 1) k := by
  intro k hk
  by_cases h1 : 0 ≤ F g (r + 1) k
  · exact F_keep g h1 _ (by omega)
  · have e : win g (fun m => 0 ≤ F g (r + 1) m) k ↔ win g (fun m => 0 ≤ F g r m) k := by
      have hm : ∀ m ∈ nx g k, m.toNat < g.n := fun m hm => by have := rising_mem (hv.2.2.2 k hk).2.1 hm; omega
      have h2 : ∀ m ∈ nx g k, F g (r + 1) m.toNat = F g r m.toNat := fun m hm' => h _ (hm m hm')
      constructor
      · exact win_mono fun m hm' h => by rw [← h2 m hm']; exact h
      · exact win_mono fun m hm' h => by rw [h2 m hm']; exact h
    have h3 : F g (r + 1) k = -1 := by have := F_range g (r + 1) k; omega
    rw [F_new g (by omega), if_neg (by rw [e, ← F_win]; exact h1), h3]
theorem F_stable {g : Gm} (hv : restG g) {r : Nat} (h : ∀ k, k < g.n → F g (r + 1) k = F g r k) : ∀ s, r ≤ s → ∀ k, k < g.n → F g s k = F g r k := by
  have step : ∀ d k, k < g.n → F g (r + d + 1) k = F g (r + d) k := by
    intro d
    induction d with
    | zero => exact h
    | succ d ih => exact F_stable_step hv ih
  intro s hs
  obtain ⟨d, rfl⟩ : ∃ d, s = r + d := ⟨s - r, by omega⟩
  clear hs
  induction d with
  | zero => intro k _; rfl
  | succ d ih => intro k hk; rw [← ih k hk]; exact step d k hk
theorem F_changed {g : Gm} (hv : restG g) : ∀ r, (∃ k, k < g.n ∧ F g (r + 1) k ≠ F g r k) → r + 1 ≤ cntF g (r + 1) g.n
  | 0, h => by have := (cntF_mono g 0 g.n).2 h; omega
  | r + 1, h => by
    have h1 : ∃ k, k < g.n ∧ F g (r + 1) k ≠ F g r k := by
      refine Classical.byContradiction fun hn => ?_
      obtain ⟨k, hk, hne⟩ := h
      exact hne (F_stable_step hv (fun k hk => Classical.byContradiction fun e => hn ⟨k, hk, e⟩) k hk)
    have := F_changed hv r h1
    have := (cntF_mono g (r + 1) g.n).2 h
    omega
/-- After as many rounds as there are nodes nothing changes. -/
theorem F_rest {g : Gm} (hv : restG g) : ∀ s, g.n ≤ s → ∀ k, k < g.n → F g s k = F g g.n k := by
  refine F_stable hv fun k hk => Classical.byContradiction fun e => ?_
  have h1 := F_changed hv g.n ⟨k, hk, e⟩
  have h2 := cntF_le g (g.n + 1) g.n
  omega
def rk (g : Gm) (k : Nat) : Int := F g g.n k
theorem rk_range (g : Gm) (k : Nat) : rk g k = -1 ∨ (0 ≤ rk g k ∧ rk g k < g.n) := F_range g g.n k
theorem rk_win {g : Gm} (hv : restG g) {k : Nat} (hk : k < g.n) : 0 ≤ rk g k ↔ win g (fun m => 0 ≤ rk g m) k := by
  have h1 := F_win g g.n k
  rw [F_rest hv (g.n + 1) (by omega) k hk] at h1
  exact h1
/-- What a rank says. -/
theorem rk_spec {g : Gm} (hv : restG g) {k : Nat} {i : Nat} (h : rk g k = i) : win g (fun m => 0 ≤ rk g m ∧ rk g m < i) k ∧ (0 < i → ¬ win g (fun m => 0 ≤ rk g m ∧ rk g m < (i : Int) - 1) k) := by
  obtain ⟨j, e1, e2, e3, e4⟩ := F_at g (s := g.n) (k := k) (by have : F g g.n k = i := h; omega)
  obtain rfl : j = i := by have : F g g.n k = i := h; omega
  have up : ∀ r m, r ≤ g.n → (0 ≤ F g r m ↔ (0 ≤ rk g m ∧ rk g m < r)) := by
    intro r m hr
    constructor
    · intro h0
      have := F_range g r m
      have e := F_keep g h0 g.n hr
      unfold rk; omega
    · rintro ⟨h0, h1⟩
      obtain ⟨q, f1, f2, f3, f4⟩ := F_at g (s := g.n) (k := m) h0
      have f1' : rk g m = q := f1
      rw [F_keep g (r := q + 1) (k := m) (by omega) r (by omega)]; omega
  refine ⟨?_, fun h0 hw => ?_⟩
  · have h1 := (F_win g j k).1 (by omega)
    exact win_mono (fun m _ hm => (up j m.toNat (by omega)).1 hm) h1
  · have h1 : 0 ≤ F g j k := by
      obtain ⟨p, rfl⟩ : ∃ p, j = p + 1 := ⟨j - 1, by omega⟩
      refine (F_win g p k).2 (win_mono (fun m _ hm => (up p m.toNat (by omega)).2 ⟨hm.1, by have := hm.2; omega⟩) hw)
    omega

/-! ### Lists told by functions -/
def tab (f : Nat → Int) (n : Nat) : List Int := (List.range n).map f
theorem tab_len (f : Nat → Int) (n : Nat) : (tab f n).length = n := by simp [tab]
theorem tab_succ (f : Nat → Int) (n : Nat) : tab f (n + 1) = tab f n ++ [f n] := by simp [tab, List.range_succ]
theorem tab_at (f : Nat → Int) (n i : Nat) (h : i < n) : (tab f n).getD i 0 = f i := by
  simp [tab, List.getD_eq_getElem?_getD, h]
theorem tab_congr {f f' : Nat → Int} {n : Nat} (h : ∀ k, k < n → f k = f' k) : tab f n = tab f' n := by
  refine List.map_congr_left fun k hk => h k (by simpa using hk)
theorem tab_eq {l : List Int} {f : Nat → Int} {n : Nat} (hl : l.length = n) (h : ∀ k, k < n → l.getD k 0 = f k) : l = tab f n := by
  refine List.ext_getElem (by rw [tab_len, hl]) fun i h1 h2 => ?_
  have := h i (by omega)
  rw [List.getD_eq_getElem?_getD, List.getElem?_eq_getElem h1] at this
  simp only [Option.getD_some] at this
  rw [this]; simp [tab]
theorem getD_set (l : List Int) (i j : Nat) (x : Int) (hi : i < l.length) : (l.set i x).getD j 0 = if i = j then x else l.getD j 0 := by
  simp only [List.getD_eq_getElem?_getD, List.getElem?_set]
  split
  · subst_vars; simp [hi]
  · rfl

/-! ### The reference's step -/
def stp (rk : List Int) (a : Int × Int × Bool) (m : Int) : Int × Int × Bool :=
  (if 0 ≤ rk.getD m.toNat 0 ∧ (a.1 < 0 ∨ rk.getD m.toNat 0 < a.1) then rk.getD m.toNat 0 else a.1, if a.2.1 < rk.getD m.toNat 0 then rk.getD m.toNat 0 else a.2.1, a.2.2 && decide (0 ≤ rk.getD m.toNat 0))
def fld (rk : List Int) (l : List Int) : Int × Int × Bool := l.foldl (stp rk) (-1, -1, true)
theorem fld_succ (rk l : List Int) (j : Nat) (h : j < l.length) : fld rk (l.take (j + 1)) = stp rk (fld rk (l.take j)) (l.getD j 0) := by
  unfold fld
  rw [List.take_succ_eq_append_getElem h, List.foldl_append, List.getD_eq_getElem?_getD, List.getElem?_eq_getElem h]; rfl
def rankedV (g : Gm) (rk : List Int) (k : Nat) : Int :=
  if (k : Int) ∈ g.goal then 0 else if (k : Int) ∈ g.bad ∨ (nx g k).length = 0 then -1 else
  if ow g k = 0 ∧ 0 ≤ (fld rk (nx g k)).1 then (fld rk (nx g k)).1 + 1 else if ow g k = 1 ∧ (fld rk (nx g k)).2.2 = true then (fld rk (nx g k)).2.1 + 1 else -1
theorem fld_spec (R : List Int) (hR : ∀ i, -1 ≤ R.getD i 0) : ∀ l : List Int,
    (((fld R l).1 = -1 ∧ ∀ m ∈ l, R.getD m.toNat 0 < 0) ∨ (0 ≤ (fld R l).1 ∧ (∃ m ∈ l, R.getD m.toNat 0 = (fld R l).1) ∧ ∀ m ∈ l, 0 ≤ R.getD m.toNat 0 → (fld R l).1 ≤ R.getD m.toNat 0)) ∧
    (-1 ≤ (fld R l).2.1 ∧ ((fld R l).2.1 = -1 ∨ ∃ m ∈ l, R.getD m.toNat 0 = (fld R l).2.1) ∧ ∀ m ∈ l, R.getD m.toNat 0 ≤ (fld R l).2.1) ∧
    ((fld R l).2.2 = true ↔ ∀ m ∈ l, 0 ≤ R.getD m.toNat 0) := by
  intro l
  rw [← List.take_length (l := l)]
  generalize hL : l.length = L
  have hle : L ≤ l.length := by omega
  clear hL
  induction L with
  | zero =>
    simp only [List.take_zero]
    refine ⟨.inl ⟨rfl, by simp⟩, ⟨Int.le_refl _, .inl rfl, by simp⟩, by simp [fld]⟩
  | succ L ih =>
    obtain ⟨i1, ⟨i0, i2, i3⟩, i4⟩ := ih (by omega)
    have hlt : L < l.length := by omega
    have hmem : ∀ m, m ∈ l.take (L + 1) ↔ m ∈ l.take L ∨ m = l.getD L 0 := by
      intro m
      rw [List.take_succ_eq_append_getElem hlt, List.getD_eq_getElem?_getD, List.getElem?_eq_getElem hlt, List.mem_append, List.mem_singleton]
      rfl
    rw [fld_succ R l L hlt]
    have hx := hR (l.getD L 0).toNat
    generalize hxe : R.getD (l.getD L 0).toNat 0 = x at hx
    generalize fld R (l.take L) = a at i1 i0 i2 i3 i4
    obtain ⟨a1, a2, a3⟩ := a
    simp only [stp, hxe] at i1 i0 i2 i3 i4 ⊢
    refine ⟨?_, ⟨?_, ?_, ?_⟩, ?_⟩
    · by_cases hc : 0 ≤ x ∧ (a1 < 0 ∨ x < a1)
      · rw [if_pos hc]
        right
        refine ⟨hc.1, ⟨_, (hmem _).2 (.inr rfl), hxe⟩, fun m hm h0 => ?_⟩
        rcases (hmem m).1 hm with h | h
        · rcases i1 with ⟨e1, e2⟩ | ⟨e1, e2, e3⟩
          · have := e2 m h; omega
          · have := e3 m h h0; omega
        · rw [h, hxe]; exact Int.le_refl _
      · rw [if_neg hc]
        rcases i1 with ⟨e1, e2⟩ | ⟨e1, ⟨m, e2, e2'⟩, e3⟩
        · left
          refine ⟨e1, fun m hm => ?_⟩
          rcases (hmem m).1 hm with h | h
          · exact e2 m h
          · rw [h, hxe]; omega
        · right
          refine ⟨e1, ⟨m, (hmem m).2 (.inl e2), e2'⟩, fun m hm h0 => ?_⟩
          rcases (hmem m).1 hm with h | h
          · exact e3 m h h0
          · rw [h, hxe] at h0 ⊢; omega
    · split <;> omega
    · by_cases hc : a2 < x
      · rw [if_pos hc]; exact .inr ⟨_, (hmem _).2 (.inr rfl), hxe⟩
      · rw [if_neg hc]
        rcases i2 with e | ⟨m, e, e'⟩
        · exact .inl e
        · exact .inr ⟨m, (hmem m).2 (.inl e), e'⟩
    · intro m hm
      rcases (hmem m).1 hm with h | h
      · have := i3 m h; split <;> omega
      · rw [h, hxe]; split <;> omega
    · simp only [Bool.and_eq_true, decide_eq_true_eq, i4]
      constructor
      · rintro ⟨e1, e2⟩ m hm
        rcases (hmem m).1 hm with h | h
        · exact e1 m h
        · rw [h, hxe]; exact e2
      · intro e
        exact ⟨fun m hm => e m ((hmem m).2 (.inl hm)), by rw [← hxe]; exact e _ ((hmem _).2 (.inr rfl))⟩
/-- The reference's step is a round. -/
theorem ranked_F {g : Gm} (hv : restG g) {r k : Nat} (hk : k < g.n) (h : F g r k < 0) : rankedV g (tab (F g r) g.n) k = F g (r + 1) k := by
  obtain ⟨hown, hris, hgb⟩ := hv.2.2.2 k hk
  have hat : ∀ m ∈ nx g k, (tab (F g r) g.n).getD m.toNat 0 = F g r m.toNat := fun m hm => tab_at _ _ _ (by have := rising_mem hris hm; omega)
  have hR : ∀ i, -1 ≤ (tab (F g r) g.n).getD i 0 := fun i => by
    by_cases hi : i < g.n
    · rw [tab_at _ _ _ hi]; have := F_range g r i; omega
    · rw [List.getD_eq_getElem?_getD, List.getElem?_eq_none (by rw [tab_len]; omega)]; simp
  obtain ⟨s1, ⟨s0, s2, s3⟩, s4⟩ := fld_spec _ hR (nx g k)
  have early : r ≠ 0 → ∀ i : Nat, i < r → ¬ win g (fun m => 0 ≤ F g i m) k := fun _ i hi hw => by
    have := (F_win g i k).2 hw
    rw [F_keep g this r (by omega)] at h; omega
  rw [F_new g h]
  unfold rankedV
  by_cases hg : (k : Int) ∈ g.goal
  · rw [if_pos hg, if_pos (.inl hg)]
    by_cases hr : r = 0
    · rw [hr]; rfl
    · exact absurd (.inl hg) (early hr 0 (by omega))
  rw [if_neg hg]
  by_cases hb : (k : Int) ∈ g.bad ∨ (nx g k).length = 0
  · rw [if_pos hb, if_neg]
    rintro (hw | ⟨h1, ⟨_, m, h2, _⟩ | ⟨_, h2, _⟩⟩)
    · exact hg hw
    · rcases hb with hb | hb
      · exact h1 hb
      · rw [List.length_eq_zero_iff.1 hb] at h2; cases h2
    · rcases hb with hb | hb
      · exact h1 hb
      · exact h2 (List.length_eq_zero_iff.1 hb)
  rw [if_neg hb]
  have hb1 : (k : Int) ∉ g.bad := fun e => hb (.inl e)
  have hb2 : nx g k ≠ [] := fun e => hb (.inr (by rw [e]; rfl))
  rcases hown with ho | ho
  · have hw : win g (fun m => 0 ≤ F g r m) k ↔ ∃ m ∈ nx g k, 0 ≤ F g r m.toNat := by
      constructor
      · rintro (hw | ⟨_, ⟨_, m, h2, h3⟩ | ⟨h2, _⟩⟩)
        · exact absurd hw hg
        · exact ⟨m, h2, h3⟩
        · omega
      · rintro ⟨m, h2, h3⟩; exact .inr ⟨hb1, .inl ⟨ho, m, h2, h3⟩⟩
    rcases s1 with ⟨e1, e2⟩ | ⟨e1, ⟨m, e2, e2'⟩, e3⟩
    · rw [if_neg (by omega), if_neg (by omega), if_neg]
      rw [hw]; rintro ⟨m, h2, h3⟩
      have := e2 m h2
      rw [hat m h2] at this; omega
    · rw [if_pos ⟨ho, e1⟩]
      have e4 := hat m e2
      rw [e2'] at e4
      rw [if_pos (hw.2 ⟨m, e2, by omega⟩)]
      have hlt := F_range g r m.toNat
      have hr : r ≠ 0 := by
        intro e; subst e
        have : F g 0 m.toNat = -1 := rfl
        omega
      -- no earlier round has a winning next node
      by_cases hq : F g r m.toNat = r - 1
      · omega
      · exfalso
        obtain ⟨i, f1, f2, f3, f4⟩ := F_at g (s := r) (k := m.toNat) (by omega)
        exact early hr (i + 1) (by omega) (.inr ⟨hb1, .inl ⟨ho, m, e2, by omega⟩⟩)
  · rw [if_neg (by omega)]
    have hw : win g (fun m => 0 ≤ F g r m) k ↔ ∀ m ∈ nx g k, 0 ≤ F g r m.toNat := by
      constructor
      · rintro (hw | ⟨_, ⟨h2, _⟩ | ⟨_, _, h2⟩⟩)
        · exact absurd hw hg
        · omega
        · exact h2
      · intro h2; exact .inr ⟨hb1, .inr ⟨ho, hb2, h2⟩⟩
    have hall : (fld (tab (F g r) g.n) (nx g k)).2.2 = true ↔ ∀ m ∈ nx g k, 0 ≤ F g r m.toNat := by
      rw [s4]
      exact ⟨fun h m hm => by rw [← hat m hm]; exact h m hm, fun h m hm => by rw [hat m hm]; exact h m hm⟩
    by_cases ha : ∀ m ∈ nx g k, 0 ≤ F g r m.toNat
    · rw [if_pos ⟨ho, hall.2 ha⟩, if_pos (hw.2 ha)]
      obtain ⟨m0, hm0⟩ := List.exists_mem_of_ne_nil _ hb2
      have h0 := ha m0 hm0
      have h0' := s3 m0 hm0
      rw [hat m0 hm0] at h0'
      have hr : r ≠ 0 := by intro e; subst e; simp [F] at h0
      rcases s2 with e | ⟨m, e, e'⟩
      · omega
      rw [hat m e] at e'
      have hlt := F_range g r m.toNat
      by_cases hq : F g r m.toNat = r - 1
      · omega
      · exfalso
        have hr2 : 2 ≤ r := by have := ha m e; omega
        refine early hr (r - 1) (by omega) (.inr ⟨hb1, .inr ⟨ho, hb2, fun m' hm' => ?_⟩⟩)
        have h1 := s3 m' hm'
        rw [hat m' hm'] at h1
        obtain ⟨i, f1, f2, f3, f4⟩ := F_at g (ha m' hm')
        show 0 ≤ F g (r - 1) m'.toNat
        rw [F_keep g (r := i + 1) (k := m'.toNat) (by omega) (r - 1) (by omega)]; omega
    · rw [if_neg (fun h => ha (hall.1 h.2)), if_neg (fun h => ha (hw.1 h))]
end
end Go.Ab.G
