/- Contracts of functions of these chapters, for every argument that fits, and what they need. -/
import Derived.Test.YtefjhgcndhepeaaGreatC2
set_option linter.unusedSimpArgs false
set_option linter.unusedVariables false
open Nat renaming reducePow → Y1, reduceLT → Y2, reduceLeDiff → Y3, reduceEqDiff → Y4, reduceAdd → Y5, reduceMul → Y6, reduceSub → Y7, reduceBEq → Y8, reduceDiv → Y9, reduceMod → YA
namespace Go.Ab.N
open Go.Ab
open Classical
noncomputable section

theorem getD_dropI (l : List Int) (j i : Nat) : (l.drop j).getD i 0 = l.getD (j + i) 0 := by
  simp [List.getD_eq_getElem?_getD, List.getElem?_drop]
theorem dig_drop {l : List Int} (h : dig l) (j : Nat) : dig (l.drop j) := fun d hd => h d (List.mem_of_mem_drop hd)
/-- The three digits at the top of a window of n + 1 digits. -/
theorem top_split {w : List Int} {n : Nat} (hw : dig w) (hn : 2 ≤ n) (hl : n + 1 ≤ w.length) (hv : val w < pw (n + 1)) :
    val (w.drop (n + 1)) = 0 ∧ ∃ lw, 0 ≤ lw ∧ lw < pw (n - 2) ∧ val w = ((w.getD n 0 * 1000000000 + w.getD (n - 1) 0) * 1000000000 + w.getD (n - 2) 0) * pw (n - 2) + lw := by
  have h0 : val (w.drop (n + 1)) = 0 := by
    have e := val_split w (n + 1) hl
    have h1 := val_nonneg (dig_take hw (n + 1))
    have h2 := val_nonneg (dig_drop hw (n + 1))
    apply Classical.byContradiction
    intro h
    have : pw (n + 1) * 1 ≤ pw (n + 1) * val (w.drop (n + 1)) := Int.mul_le_mul_of_nonneg_left (by omega) (by have := pw_pos (n + 1); omega)
    omega
  refine ⟨h0, val (w.take (n - 2)), val_nonneg (dig_take hw _), ?_, ?_⟩
  · have := val_lt (dig_take hw (n - 2))
    rwa [List.length_take, Nat.min_eq_left (by omega)] at this
  · have e1 := val_split w (n - 2) (by omega)
    have e2 := val_drop w (n - 2) (by omega)
    have e3 := val_drop w (n - 1) (by omega)
    have e4 := val_drop w n (by omega)
    rw [show n - 2 + 1 = n - 1 by omega] at e2
    rw [show n - 1 + 1 = n by omega] at e3
    rw [h0] at e4
    rw [e1, e2, e3, e4]
    generalize pw (n - 2) = P
    grind
theorem low_split {v : List Int} {n : Nat} (hv : dig v) (hn : 2 ≤ n) (hl : v.length = n) :
    ∃ lv, 0 ≤ lv ∧ lv < pw (n - 2) ∧ val v = (v.getD (n - 1) 0 * 1000000000 + v.getD (n - 2) 0) * pw (n - 2) + lv := by
  refine ⟨val (v.take (n - 2)), val_nonneg (dig_take hv _), ?_, ?_⟩
  · have := val_lt (dig_take hv (n - 2))
    rwa [List.length_take, Nat.min_eq_left (by omega)] at this
  · have e1 := val_split v (n - 2) (by omega)
    have e2 := val_drop v (n - 2) (by omega)
    have e3 := val_drop v (n - 1) (by omega)
    rw [show n - 2 + 1 = n - 1 by omega] at e2
    rw [show n - 1 + 1 = n by omega, show v.drop n = [] from List.drop_of_length_le (by omega)] at e3
    rw [e1, e2, e3]
    simp only [val]
    generalize pw (n - 2) = P
    grind

/-- What holds ahead of a step: k digits of the quotient are still to be found. -/
structure longI (A : Int) (v : List Int) (n m : Nat) (u q : List Int) (k : Nat) : Prop where
  hk : k ≤ m
  hu : u.length = m + n
  du : dig u
  hq : q.length = m
  dq : dig q
  zq : ∀ i, i < k → q.getD i 0 = 0
  sum : A = val q * val v + val u
  top : val (u.drop k) < val v

/-- The window ahead of a step. -/
theorem long_win {A : Int} {v : List Int} {n m : Nat} {u q : List Int} {j : Nat} (h : longI A v n m u q (j + 1)) (hv : dig v) (hn : 2 ≤ n) (hl : v.length = n) (hv1 : 500000000 ≤ v.getD (n - 1) 0) :
    val (u.drop (j + n + 1)) = 0 ∧ 0 ≤ val (u.drop j) ∧ val (u.drop j) < 1000000000 * val v ∧ u.getD (j + n) 0 ≤ v.getD (n - 1) 0 ∧ val v < pw n ∧ 0 < val v ∧
    (∃ lw, 0 ≤ lw ∧ lw < pw (n - 2) ∧ val (u.drop j) = ((u.getD (j + n) 0 * 1000000000 + u.getD (j + n - 1) 0) * 1000000000 + u.getD (j + n - 2) 0) * pw (n - 2) + lw) ∧
    (∃ lv, 0 ≤ lv ∧ lv < pw (n - 2) ∧ val v = (v.getD (n - 1) 0 * 1000000000 + v.getD (n - 2) 0) * pw (n - 2) + lv) := by
  have hj : j + 1 ≤ m := h.hk
  have hul := h.hu
  have hvn := val_lt hv
  rw [hl] at hvn
  have d1 := dig_at h.du j
  unfold digt at d1
  have e0 := val_drop u j (by omega)
  have ht := h.top
  have hW : val (u.drop j) < 1000000000 * val v := by omega
  have hW0 := val_nonneg (dig_drop h.du j)
  have hlt : val (u.drop j) < pw (n + 1) := by simp only [pw]; omega
  obtain ⟨z, lw, w1, w2, w3⟩ := top_split (dig_drop h.du j) hn (by rw [List.length_drop]; omega) hlt
  obtain ⟨lv, v1, v2, v3⟩ := low_split hv hn hl
  rw [getD_dropI, getD_dropI, getD_dropI, show j + (n - 1) = j + n - 1 by omega, show j + (n - 2) = j + n - 2 by omega] at w3
  rw [List.drop_drop, show j + (n + 1) = j + n + 1 by omega] at z
  have hP := pw_pos (n - 2)
  have p1 := dig_at hv (n - 2)
  have p2 := dig_at h.du (j + n - 1)
  have p3 := dig_at h.du (j + n - 2)
  unfold digt at p1 p2 p3
  have vpos : 0 < val v := by
    rw [v3]
    have : 0 ≤ (v.getD (n - 1) 0 * 1000000000 + v.getD (n - 2) 0 - 1) * pw (n - 2) := Int.mul_nonneg (by omega) (by omega)
    rw [Int.sub_mul] at this
    omega
  refine ⟨z, hW0, hW, ?_, hvn, vpos, ⟨lw, w1, w2, w3⟩, ⟨lv, v1, v2, v3⟩⟩
  apply Classical.byContradiction
  intro hc
  have h1 : (v.getD (n - 1) 0 + 1) * 1000000000 * 1000000000 ≤ (u.getD (j + n) 0 * 1000000000 + u.getD (j + n - 1) 0) * 1000000000 + u.getD (j + n - 2) 0 := by omega
  have h2 := Int.mul_le_mul_of_nonneg_right h1 (show 0 ≤ pw (n - 2) by omega)
  have h3 : (v.getD (n - 1) 0 * 1000000000 + v.getD (n - 2) 0 + 1) * pw (n - 2) ≤ ((v.getD (n - 1) 0 + 1) * 1000000000) * pw (n - 2) := Int.mul_le_mul_of_nonneg_right (by omega) (by omega)
  rw [Int.add_mul, Int.one_mul] at h3
  have h4 : (v.getD (n - 1) 0 + 1) * 1000000000 * 1000000000 * pw (n - 2) = 1000000000 * (((v.getD (n - 1) 0 + 1) * 1000000000) * pw (n - 2)) := by grind
  omega
/-- The row of differences is done: what stands in the window. -/
theorem sub_win {u v u' : List Int} {g c : Int} {j n : Nat} (hu : dig u) (hl : v.length = n) (hj : j + n < u.length) (h : subJ u v g j n (u', c, n)) (hz : val (u.drop (j + n + 1)) = 0) :
    val (u'.set (j + n) (u.getD (j + n) 0 - c)) = val u - g * val v * pw j ∧ u'.getD (j + n) 0 = u.getD (j + n) 0 ∧
    (∃ lo, 0 ≤ lo ∧ lo < pw n ∧ val (u.drop j) - g * val v = lo + pw n * (u.getD (j + n) 0 - c)) := by
  obtain ⟨h1, h2, h3, h4, h5, h6, h7⟩ := h
  simp only at h1 h2 h3 h4 h5 h6 h7
  have e0 := h6 (j + n) (.inr (Nat.le_refl _))
  have ev : v.take n = v := by rw [← hl, List.take_length]
  rw [ev] at h7
  have e1 : val (u'.set (j + n) (u.getD (j + n) 0 - c)) = val u - g * val v * pw j := by
    rw [val_set _ _ _ (by omega), e0]
    have : pw (j + n) * (u.getD (j + n) 0 - c - u.getD (j + n) 0) = - (c * pw (j + n)) := by grind
    omega
  refine ⟨e1, e0, val ((u'.drop j).take n), val_nonneg (dig_take (dig_drop h3 j) n), ?_, ?_⟩
  · have := val_lt (dig_take (dig_drop h3 j) n)
    rwa [List.length_take, List.length_drop, Nat.min_eq_left (by omega)] at this
  · have a1 := val_split u j (by omega)
    have a2 := val_split u' j (by omega)
    have a3 : u'.take j = u.take j := by
      refine List.ext_getElem (by rw [List.length_take, List.length_take]; omega) fun i hi1 hi2 => ?_
      rw [List.length_take] at hi1 hi2
      rw [List.getElem_take, List.getElem_take]
      have := h6 i (.inl (by omega))
      rwa [List.getD_eq_getElem?_getD, List.getD_eq_getElem?_getD, List.getElem?_eq_getElem (by omega), List.getElem?_eq_getElem (by omega)] at this
    have a4 := val_split (u'.drop j) n (by rw [List.length_drop]; omega)
    rw [List.drop_drop] at a4
    have a5 := val_drop u' (j + n) (by omega)
    have a6 : u'.drop (j + n + 1) = u.drop (j + n + 1) := by
      refine List.ext_getElem (by rw [List.length_drop, List.length_drop]; omega) fun i hi1 hi2 => ?_
      rw [List.length_drop] at hi1 hi2
      rw [List.getElem_drop, List.getElem_drop]
      have := h6 (j + n + 1 + i) (.inr (by omega))
      rwa [List.getD_eq_getElem?_getD, List.getD_eq_getElem?_getD, List.getElem?_eq_getElem (by omega), List.getElem?_eq_getElem (by omega)] at this
    rw [a6, hz, e0] at a5
    rw [a3] at a2
    rw [a5] at a4
    rw [a2, a4, a1, pw_add] at h7
    have hp := pw_pos j
    have key : pw j * (val (u.drop j) - g * val v) = pw j * (val ((u'.drop j).take n) + pw n * (u.getD (j + n) 0 - c)) := by grind
    exact Int.eq_of_mul_eq_mul_left (by omega) key
end
end Go.Ab.N
namespace Go.Ab.N
open Go.Ab
open Classical
noncomputable section

theorem take_same {u u' : List Int} {j : Nat} (hl : u'.length = u.length) (hj : j ≤ u.length) (h : ∀ i, i < j → u'.getD i 0 = u.getD i 0) : u'.take j = u.take j := by
  refine List.ext_getElem (by rw [List.length_take, List.length_take]; omega) fun i hi1 hi2 => ?_
  rw [List.length_take] at hi1 hi2
  rw [List.getElem_take, List.getElem_take]
  have := h i (by omega)
  rwa [List.getD_eq_getElem?_getD, List.getD_eq_getElem?_getD, List.getElem?_eq_getElem (by omega), List.getElem?_eq_getElem (by omega)] at this
theorem drop_same {u u' : List Int} {j : Nat} (hl : u'.length = u.length) (h : ∀ i, j ≤ i → u'.getD i 0 = u.getD i 0) : u'.drop j = u.drop j := by
  refine List.ext_getElem (by rw [List.length_drop, List.length_drop]; omega) fun i hi1 hi2 => ?_
  rw [List.length_drop] at hi1 hi2
  rw [List.getElem_drop, List.getElem_drop]
  have := h (j + i) (by omega)
  rwa [List.getD_eq_getElem?_getD, List.getD_eq_getElem?_getD, List.getElem?_eq_getElem (by omega), List.getElem?_eq_getElem (by omega)] at this
theorem win_drop {u u' : List Int} {j : Nat} {X : Int} (hl : u'.length = u.length) (hj : j ≤ u.length) (h : ∀ i, i < j → u'.getD i 0 = u.getD i 0) (hv : val u' = val u - X * pw j) : val (u'.drop j) = val (u.drop j) - X := by
  have a1 := val_split u j hj
  have a2 := val_split u' j (by omega)
  rw [take_same hl hj h] at a2
  have hp := pw_pos j
  have key : pw j * val (u'.drop j) = pw j * (val (u.drop j) - X) := by grind
  exact Int.eq_of_mul_eq_mul_left (by omega) key
theorem dig_of_get {l : List Int} (h : ∀ i, i < l.length → digt (l.getD i 0)) : dig l := dig_of_at h

section
variable {A : Int} {v : List Int} {n m : Nat} {u q : List Int} {j : Nat} {g c : Int} {u' : List Int}
theorem q_set (h : longI A v n m u q (j + 1)) (g : Int) : val (q.set j g) = val q + pw j * g := by
  have := h.hk
  rw [val_set _ _ _ (by rw [h.hq]; omega), h.zq j (by omega), Int.sub_zero]
/-- The guess was the digit. -/
theorem long_keep (h : longI A v n m u q (j + 1)) (hv : dig v) (hl : v.length = n) (hvn : val v < pw n) (hV : 0 < val v) (hz : val (u.drop (j + n + 1)) = 0) (hW : val (u.drop j) < 1000000000 * val v)
    (g0 : 0 ≤ g) (g1 : val (u.drop j) < (g + 1) * val v) (hs : subJ u v g j n (u', c, n)) (hx : ¬ u.getD (j + n) 0 - c < 0) :
    longI A v n m (u'.set (j + n) (u.getD (j + n) 0 - c)) (q.set j g) j ∧ digt g := by
  have hj : j + 1 ≤ m := h.hk
  have hul := h.hu
  obtain ⟨e1, e2, lo, l0, l1, l2⟩ := sub_win h.du hl (by omega) hs hz
  obtain ⟨_, s2, s3, _, _, s6, _⟩ := hs
  simp only at s2 s3 s6
  have hp := pw_pos n
  have b1 : val (u.drop j) - g * val v < val v := by rw [Int.add_mul] at g1; omega
  have x0 : u.getD (j + n) 0 - c = 0 := by
    apply Classical.byContradiction
    intro hne
    have : pw n * 1 ≤ pw n * (u.getD (j + n) 0 - c) := Int.mul_le_mul_of_nonneg_left (by omega) (by omega)
    omega
  have b0 : 0 ≤ val (u.drop j) - g * val v := by rw [l2, x0]; omega
  have gB : g < 1000000000 := by
    apply Classical.byContradiction
    intro hc
    have : 1000000000 * val v ≤ g * val v := Int.mul_le_mul_of_nonneg_right (by omega) (by omega)
    omega
  have hd := win_drop (u := u) (u' := u'.set (j + n) (u.getD (j + n) 0 - c)) (j := j) (X := g * val v) (by simp [s2]) (by omega) (fun i hi => by rw [getD_setI _ _ _ _ (by omega), if_neg (by omega)]; exact s6 i (.inl hi)) e1
  refine ⟨⟨by omega, by simp [s2, hul], dig_set s3 _ (by rw [x0]; exact ⟨by omega, by omega⟩), by simp [h.hq], dig_set h.dq _ ⟨g0, gB⟩, fun i hi => ?_, ?_, ?_⟩, ⟨g0, gB⟩⟩
  · have := h.hq
    rw [getD_setI _ _ _ _ (by omega), if_neg (by omega)]; exact h.zq i (by omega)
  · rw [q_set h g, e1, h.sum]; grind
  · rw [hd]; exact b1
/-- The guess was one too great. -/
theorem long_back {c2 : Int} {u2 : List Int} (h : longI A v n m u q (j + 1)) (hv : dig v) (hl : v.length = n) (hvn : val v < pw n) (hV : 0 < val v) (hz : val (u.drop (j + n + 1)) = 0)
    (hW0 : 0 ≤ val (u.drop j)) (gB : g ≤ 1000000000) (g2 : g * val v < val (u.drop j) + val v) (hs : subJ u v g j n (u', c, n)) (hx : u.getD (j + n) 0 - c < 0)
    (ha : addJ (u'.set (j + n) (u.getD (j + n) 0 - c)) v j n (u2, c2, n)) :
    u2.getD (j + n) 0 = u.getD (j + n) 0 - c ∧ longI A v n m (u2.set (j + n) (u.getD (j + n) 0 - c + c2)) (q.set j (g - 1)) j ∧ digt (g - 1) := by
  have hj : j + 1 ≤ m := h.hk
  have hul := h.hu
  obtain ⟨e1, e2, lo, l0, l1, l2⟩ := sub_win h.du hl (by omega) hs hz
  obtain ⟨_, s2, s3, _, _, s6, _⟩ := hs
  simp only at s2 s3 s6
  have hp := pw_pos n
  have b1 : val (u.drop j) - g * val v < 0 := by
    have : pw n * (u.getD (j + n) 0 - c) ≤ pw n * (-1) := Int.mul_le_mul_of_nonneg_left (by omega) (by omega)
    omega
  have gpos : 0 < g := by
    apply Classical.byContradiction
    intro hc
    have : g * val v ≤ 0 * val v := Int.mul_le_mul_of_nonneg_right (by omega) (by omega)
    omega
  obtain ⟨_, t2, t3, t4, t5, t6, t7⟩ := ha
  simp only [List.length_set] at t2 t3 t4 t5 t6 t7
  have ev : v.take n = v := by rw [← hl, List.take_length]
  rw [ev] at t7
  have ex : u2.getD (j + n) 0 = u.getD (j + n) 0 - c := by
    rw [t6 (j + n) (.inr (Nat.le_refl _)), getD_setI _ _ _ _ (by omega), if_pos rfl]
  have e3 : val (u2.set (j + n) (u.getD (j + n) 0 - c + c2)) = val u - (g - 1) * val v * pw j := by
    rw [val_set _ _ _ (by omega), ex]
    rw [e1] at t7
    have : pw (j + n) * (u.getD (j + n) 0 - c + c2 - (u.getD (j + n) 0 - c)) = c2 * pw (j + n) := by grind
    have e4 : (g - 1) * val v * pw j = g * val v * pw j - val v * pw j := by grind
    omega
  have below : ∀ i, i < j → (u2.set (j + n) (u.getD (j + n) 0 - c + c2)).getD i 0 = u.getD i 0 := fun i hi => by
    rw [getD_setI _ _ _ _ (by omega), if_neg (by omega), t6 i (.inl hi), getD_setI _ _ _ _ (by omega), if_neg (by omega)]; exact s6 i (.inl hi)
  have hd := win_drop (u := u) (u' := u2.set (j + n) (u.getD (j + n) 0 - c + c2)) (j := j) (X := (g - 1) * val v) (by simp [t2, s2]) (by omega) below e3
  have e5 : (g - 1) * val v = g * val v - val v := by rw [Int.sub_mul]; omega
  rw [e5] at hd
  -- the top digit is 0
  have above : (u2.set (j + n) (u.getD (j + n) 0 - c + c2)).drop (j + n + 1) = u.drop (j + n + 1) := drop_same (by simp [t2, s2]) fun i hi => by
    rw [getD_setI _ _ _ _ (by omega), if_neg (by omega), t6 i (.inr (by omega)), getD_setI _ _ _ _ (by omega), if_neg (by omega)]; exact s6 i (.inr (by omega))
  have lowdig : dig (((u2.set (j + n) (u.getD (j + n) 0 - c + c2)).drop j).take n) := by
    refine dig_of_get fun i hi => ?_
    rw [List.length_take, List.length_drop, List.length_set] at hi
    rw [getD_take _ _ _ _ (by omega), getD_dropI, getD_setI _ _ _ _ (by omega), if_neg (by omega)]
    exact t3 _ (by omega)
  have w0 := val_nonneg lowdig
  have w1 := val_lt lowdig
  rw [List.length_take, List.length_drop, List.length_set, Nat.min_eq_left (by omega)] at w1
  have w2 := val_split ((u2.set (j + n) (u.getD (j + n) 0 - c + c2)).drop j) n (by rw [List.length_drop, List.length_set]; omega)
  rw [List.drop_drop, val_drop _ (j + n) (by rw [List.length_set]; omega), above, hz, getD_setI _ _ _ _ (by omega), if_pos rfl] at w2
  rw [hd, Int.mul_zero, Int.add_zero] at w2
  have x0 : u.getD (j + n) 0 - c + c2 = 0 := by
    generalize u.getD (j + n) 0 - c + c2 = x at *
    apply Classical.byContradiction
    intro hne
    rcases Int.lt_or_gt_of_ne hne with hlt | hgt
    · have : pw n * x ≤ pw n * (-1) := Int.mul_le_mul_of_nonneg_left (by omega) (by omega)
      omega
    · have : pw n * 1 ≤ pw n * x := Int.mul_le_mul_of_nonneg_left (by omega) (by omega)
      omega
  refine ⟨ex, ⟨by omega, by simp [t2, s2, hul], dig_of_get fun i hi => ?_, by simp [h.hq], dig_set h.dq _ ⟨by omega, by omega⟩, fun i hi => ?_, ?_, ?_⟩, ⟨by omega, by omega⟩⟩
  · rw [List.length_set] at hi
    rw [getD_setI _ _ _ _ (by omega)]
    split
    · rw [x0]; exact ⟨by omega, by omega⟩
    · exact t3 i (by omega)
  · have := h.hq
    rw [getD_setI _ _ _ _ (by omega), if_neg (by omega)]; exact h.zq i (by omega)
  · rw [q_set h (g - 1), e3, h.sum]; grind
  · rw [hd]; omega
end
end
end Go.Ab.N
namespace Go.Ab.N
open Go.Ab
open Classical
noncomputable section

/-- The window: W within it, V below, the digits that are looked at. -/
structure winI (W V : Int) (top u2 v1 v2 P : Int) : Prop where
  hP : 0 < P
  w : ∃ lw, 0 ≤ lw ∧ lw < P ∧ W = (top * 1000000000 + u2) * P + lw
  v : ∃ lv, 0 ≤ lv ∧ lv < P ∧ V = (v1 * 1000000000 + v2) * P + lv
  du : digt u2
  dv : digt v2
  h1 : 500000000 ≤ v1
  h2 : v1 < 1000000000
  ht : 0 ≤ top ∧ top ≤ v1 * 1000000000 + 999999999
  hW : W < 1000000000 * V
/-- What the guess and the rest satisfy. -/
structure guessI (W V top v1 g r : Int) : Prop where
  e : top = g * v1 + r
  r0 : 0 ≤ r
  r1 : r < 1000000000
  g0 : 0 ≤ g
  g1 : g ≤ 1000000001
  hi : W < (g + 1) * V
def goodG (W V g : Int) : Prop := 0 ≤ g ∧ g ≤ 1000000000 ∧ W < (g + 1) * V ∧ g * V < W + V
section
variable {W V top u2 v1 v2 P g r : Int}
theorem winI.big (h : winI W V top u2 v1 v2 P) : 1000000000 * P ≤ V ∧ (v1 * 1000000000 + v2) * P ≤ V ∧ V < (v1 * 1000000000 + v2 + 1) * P ∧ (top * 1000000000 + u2) * P ≤ W ∧ W < (top * 1000000000 + u2 + 1) * P ∧ 0 < V := by
  obtain ⟨lw, a1, a2, a3⟩ := h.w
  obtain ⟨lv, b1, b2, b3⟩ := h.v
  have hv2 := h.dv
  unfold digt at hv2
  have hP := h.hP
  have h1 := h.h1
  have c1 : 1000000000 * P ≤ (v1 * 1000000000 + v2) * P := Int.mul_le_mul_of_nonneg_right (by omega) (by omega)
  have c2 : (v1 * 1000000000 + v2 + 1) * P = (v1 * 1000000000 + v2) * P + P := by rw [Int.add_mul, Int.one_mul]
  have c3 : (top * 1000000000 + u2 + 1) * P = (top * 1000000000 + u2) * P + P := by rw [Int.add_mul, Int.one_mul]
  omega
theorem guess_start (h : winI W V top u2 v1 v2 P) : guessI W V top v1 (top / v1) (top % v1) := by
  have h1 := h.h1
  have h2 := h.h2
  have ht := h.ht
  have hP := h.hP
  obtain ⟨b1, b2, b3, b4, b5, b6⟩ := h.big
  have e := Int.mul_ediv_add_emod top v1
  have r0 := Int.emod_nonneg top (show v1 ≠ 0 by omega)
  have r1 := Int.emod_lt_of_pos top (show 0 < v1 by omega)
  have g0 : 0 ≤ top / v1 := Int.ediv_nonneg ht.1 (by omega)
  generalize top / v1 = g at *
  generalize top % v1 = r at *
  have e' : top = g * v1 + r := by rw [Int.mul_comm] at e; omega
  refine ⟨e', r0, by omega, g0, ?_, ?_⟩
  · apply Classical.byContradiction
    intro hc
    have : 1000000002 * v1 ≤ g * v1 := Int.mul_le_mul_of_nonneg_right (by omega) (by omega)
    omega
  · have du := h.du
    unfold digt at du
    have dv := h.dv
    unfold digt at dv
    refine guess_hi (T := 1000000000 * P) (v1 := v1) (r := r) (top := top) (by omega) r1 e' ?_ ?_ g0
    · have c1 : (top * 1000000000 + u2 + 1) * P ≤ ((top + 1) * 1000000000) * P := Int.mul_le_mul_of_nonneg_right (by omega) (by omega)
      have c2 : ((top + 1) * 1000000000) * P = (top + 1) * (1000000000 * P) := by rw [Int.mul_assoc]
      omega
    · have c1 : (v1 * 1000000000) * P ≤ (v1 * 1000000000 + v2) * P := Int.mul_le_mul_of_nonneg_right (by omega) (by omega)
      have c2 : (v1 * 1000000000) * P = v1 * (1000000000 * P) := by rw [Int.mul_assoc]
      omega
theorem guess_exit (h : winI W V top u2 v1 v2 P) (hg : guessI W V top v1 g r) (h1 : ¬ 1000000000 ≤ g) (h2 : ¬ g * v2 > r * 1000000000 + u2) : goodG W V g := by
  obtain ⟨b1, b2, b3, b4, b5, b6⟩ := h.big
  refine ⟨hg.g0, by omega, hg.hi, ?_⟩
  refine guess_ok (P := P) (x := v1 * 1000000000 + v2) (t := top * 1000000000 + u2) h.hP ?_ b4 b3 hg.g0 (by omega) b1
  have e := hg.e
  have : g * (v1 * 1000000000 + v2) = (g * v1) * 1000000000 + g * v2 := by grind
  omega
theorem guess_less (h : winI W V top u2 v1 v2 P) (hg : guessI W V top v1 g r) (hc : 1000000000 ≤ g ∨ g * v2 > r * 1000000000 + u2) : W < g * V := by
  obtain ⟨b1, b2, b3, b4, b5, b6⟩ := h.big
  by_cases hgB : 1000000000 ≤ g
  · have : 1000000000 * V ≤ g * V := Int.mul_le_mul_of_nonneg_right hgB (by omega)
    have := h.hW
    omega
  · refine guess_down (P := P) (x := v1 * 1000000000 + v2) (t := top * 1000000000 + u2) (by have := h.hP; omega) ?_ b5 b2 hg.g0
    have e := hg.e
    have : g * (v1 * 1000000000 + v2) = (g * v1) * 1000000000 + g * v2 := by grind
    omega
theorem guess_pos (h : winI W V top u2 v1 v2 P) (hg : guessI W V top v1 g r) (hW0 : 0 ≤ W) (hl : W < g * V) : 1 ≤ g := by
  have b6 := h.big.2.2.2.2.2
  apply Classical.byContradiction
  intro hc
  have : g * V ≤ 0 * V := Int.mul_le_mul_of_nonneg_right (by omega) (by omega)
  omega
theorem guess_break (h : winI W V top u2 v1 v2 P) (hg : guessI W V top v1 g r) (hW0 : 0 ≤ W) (hl : W < g * V) (hr : 1000000000 ≤ r + v1) : goodG W V (g - 1) := by
  obtain ⟨b1, b2, b3, b4, b5, b6⟩ := h.big
  have gp := guess_pos h hg hW0 hl
  have g1 := hg.g1
  have du := h.du
  have dv := h.dv
  unfold digt at du dv
  refine ⟨by omega, by omega, by rw [show g - 1 + 1 = g by omega]; exact hl, ?_⟩
  refine guess_ok (P := P) (x := v1 * 1000000000 + v2) (t := top * 1000000000 + u2) h.hP ?_ b4 b3 (by omega) (by omega) b1
  have e := hg.e
  have e1 : (g - 1) * (v1 * 1000000000 + v2) = (g * v1 - v1) * 1000000000 + (g - 1) * v2 := by grind
  have e2 : (g - 1) * v2 ≤ 1000000000 * v2 := Int.mul_le_mul_of_nonneg_right (by omega) dv.1
  omega
theorem guess_next (h : winI W V top u2 v1 v2 P) (hg : guessI W V top v1 g r) (hW0 : 0 ≤ W) (hl : W < g * V) (hr : ¬ 1000000000 ≤ r + v1) : guessI W V top v1 (g - 1) (r + v1) := by
  have gp := guess_pos h hg hW0 hl
  have g1 := hg.g1
  have r0 := hg.r0
  have h1 := h.h1
  refine ⟨?_, by omega, by omega, by omega, by omega, by rw [show g - 1 + 1 = g by omega]; exact hl⟩
  have e := hg.e
  rw [Int.sub_mul, Int.one_mul]; omega
end
theorem long_winI {A : Int} {v : List Int} {n m : Nat} {u q : List Int} {j : Nat} (h : longI A v n m u q (j + 1)) (hv : dig v) (hn : 2 ≤ n) (hl : v.length = n) (hv1 : 500000000 ≤ v.getD (n - 1) 0) :
    winI (val (u.drop j)) (val v) (u.getD (j + n) 0 * 1000000000 + u.getD (j + n - 1) 0) (u.getD (j + n - 2) 0) (v.getD (n - 1) 0) (v.getD (n - 2) 0) (pw (n - 2)) := by
  obtain ⟨z, w0, w1, w2, w3, w4, w5, w6⟩ := long_win h hv hn hl hv1
  have d1 := dig_at h.du (j + n)
  have d2 := dig_at h.du (j + n - 1)
  have d3 := dig_at hv (n - 1)
  unfold digt at d1 d2 d3
  exact ⟨pw_pos _, w5, w6, dig_at h.du _, dig_at hv _, hv1, d3.2, by omega, w1⟩
end
end Go.Ab.N
namespace Go.Ab.N
open Go.Ab
open Classical
noncomputable section

/-- The divisor, scaled. -/
theorem long_scale {b : List Int} {s : Int} (hb : canon b) (hn : 2 ≤ b.length) (hs : s = 1000000000 / (b.getD (b.length - 1) 0 + 1)) :
    1 ≤ s ∧ s ≤ 500000000 ∧ val ((scaleF b s).take b.length) = val b * s ∧ dig ((scaleF b s).take b.length) ∧ ((scaleF b s).take b.length).length = b.length ∧ 500000000 ≤ ((scaleF b s).take b.length).getD (b.length - 1) 0 ∧ pw (b.length - 1) * s ≤ val b * s := by
  have hne : b ≠ [] := fun e => by rw [e] at hn; simp at hn
  have t0 := hb.2 hne
  have t1 := dig_at hb.1 (b.length - 1)
  unfold digt at t1
  obtain ⟨s1, s2, s3, s4⟩ := scale_top (b := b.getD (b.length - 1) 0) (by omega) t1.2 hs
  have ds : digt s := ⟨by omega, by omega⟩
  have hd := scaleF_dig hb.1 ds
  have hl := scaleF_len b s
  have hv := scaleF_val b s
  have hP := pw_pos (b.length - 1)
  -- the value of b between its top digit and one more
  have e := val_take_succ b (b.length - 1) (by omega)
  rw [show b.length - 1 + 1 = b.length by omega, List.take_length] at e
  have e1 := val_nonneg (dig_take hb.1 (b.length - 1))
  have e2 := val_lt (dig_take hb.1 (b.length - 1))
  rw [List.length_take, Nat.min_eq_left (by omega)] at e2
  generalize hbt : b.getD (b.length - 1) 0 = t at *
  have up : val b * s < pw b.length := by
    have h1 : val b < pw (b.length - 1) * (t + 1) := by rw [Int.mul_add, Int.mul_one]; omega
    have h2 : val b * s < (pw (b.length - 1) * (t + 1)) * s := Int.mul_lt_mul_of_pos_right h1 (by omega)
    have h3 : (pw (b.length - 1) * (t + 1)) * s = pw (b.length - 1) * ((t + 1) * s) := by rw [Int.mul_assoc]
    have h4 : pw (b.length - 1) * ((t + 1) * s) ≤ pw (b.length - 1) * 1000000000 := Int.mul_le_mul_of_nonneg_left s4 (by omega)
    have h5 : pw b.length = 1000000000 * pw (b.length - 1) := by
      conv => lhs; rw [show b.length = (b.length - 1) + 1 by omega]
      rfl
    omega
  have lo : pw (b.length - 1) * (t * s) ≤ val b * s := by
    have h1 : pw (b.length - 1) * t ≤ val b := by omega
    have h2 : (pw (b.length - 1) * t) * s ≤ val b * s := Int.mul_le_mul_of_nonneg_right h1 (by omega)
    rw [Int.mul_assoc] at h2; exact h2
  have lo1 : pw (b.length - 1) * s ≤ val b * s := by
    have h1 : pw (b.length - 1) ≤ val b := by
      have : pw (b.length - 1) * 1 ≤ pw (b.length - 1) * t := Int.mul_le_mul_of_nonneg_left (by omega) (by omega)
      omega
    exact Int.mul_le_mul_of_nonneg_right h1 (by omega)
  have hlen : ((scaleF b s).take b.length).length = b.length := by rw [List.length_take]; omega
  -- the further digit is 0
  have hsp := val_split (scaleF b s) b.length (by omega)
  have d0 := val_nonneg (dig_take hd b.length)
  have d1 := val_nonneg (dig_drop hd b.length)
  have hz : val ((scaleF b s).drop b.length) = 0 := by
    apply Classical.byContradiction
    intro hc
    have : pw b.length * 1 ≤ pw b.length * val ((scaleF b s).drop b.length) := Int.mul_le_mul_of_nonneg_left (by omega) (by have := pw_pos b.length; omega)
    omega
  have hval : val ((scaleF b s).take b.length) = val b * s := by rw [hz, Int.mul_zero] at hsp; omega
  refine ⟨s1, s2, hval, dig_take hd _, hlen, ?_, lo1⟩
  have dv := dig_take hd b.length
  generalize (scaleF b s).take b.length = v at *
  have f := val_take_succ v (b.length - 1) (by omega)
  rw [show b.length - 1 + 1 = b.length by omega, show v.take b.length = v by rw [← hlen, List.take_length]] at f
  have f2 := val_lt (dig_take dv (b.length - 1))
  rw [List.length_take, Nat.min_eq_left (by omega)] at f2
  apply Classical.byContradiction
  intro hc
  have g1 : pw (b.length - 1) * (v.getD (b.length - 1) 0 + 1) ≤ pw (b.length - 1) * (t * s) := Int.mul_le_mul_of_nonneg_left (by omega) (by omega)
  rw [Int.mul_add, Int.mul_one] at g1
  omega
theorem dig_zeros (n : Nat) : dig (List.replicate n 0) := fun d hd => by rw [(List.mem_replicate.1 hd).2]; exact ⟨by omega, by omega⟩
/-- The beginning. -/
theorem long_begin {a b v : List Int} {s : Int} {m : Nat} (ha : dig a) (hb : canon b) (hn : 2 ≤ b.length) (hab : b.length ≤ a.length) (hm : m = a.length - b.length + 1) (s1 : 1 ≤ s) (s2 : s ≤ 500000000) (hV : val v = val b * s) (hlo : pw (b.length - 1) * s ≤ val b * s) :
    longI (val a * s) v b.length m (scaleF a s) (List.replicate m 0) m := by
  have ds : digt s := ⟨by omega, by omega⟩
  have hd := scaleF_dig ha ds
  have hl := scaleF_len a s
  have hv := scaleF_val a s
  refine ⟨Nat.le_refl _, by omega, hd, by simp, dig_zeros m, fun i hi => ?_, by rw [val_zeros, hv]; omega, ?_⟩
  · simp [List.getD_eq_getElem?_getD, List.getElem?_replicate]
    split <;> rfl
  · have hsp := val_split (scaleF a s) m (by omega)
    have d0 := val_nonneg (dig_take hd m)
    have la := val_lt ha
    have e : pw a.length = pw m * pw (b.length - 1) := by rw [← pw_add]; congr 1; omega
    have hm0 := pw_pos m
    apply Classical.byContradiction
    intro hc
    have h1 : pw m * val v ≤ pw m * val ((scaleF a s).drop m) := Int.mul_le_mul_of_nonneg_left (by omega) (by omega)
    have h2 : val a * s < pw a.length * s := Int.mul_lt_mul_of_pos_right la (by omega)
    have h3 : pw m * (pw (b.length - 1) * s) ≤ pw m * val v := Int.mul_le_mul_of_nonneg_left (by omega) (by omega)
    rw [e, Int.mul_assoc] at h2
    omega
/-- The end: the quotient and the rest. -/
theorem long_end {a b v u q : List Int} {s : Int} {n m : Nat} (ha : dig a) (hb : dig b) (h : longI (val a * s) v n m u q 0) (s1 : 1 ≤ s) (hV : val v = val b * s) (hvn : val v < pw n) :
    val q = val a / val b ∧ val (tab (quoD (u.take n) s) (u.take n).length) = val a % val b ∧ dig (u.take n) := by
  have ht := h.top
  rw [List.drop_zero] at ht
  have hsum := h.sum
  have u0 := val_nonneg h.du
  have hl := h.hu
  -- the window is all
  have hsp := val_split u n (by omega)
  have d0 := val_nonneg (dig_take h.du n)
  have d1 := val_nonneg (dig_drop h.du n)
  have hz : val (u.drop n) = 0 := by
    apply Classical.byContradiction
    intro hc
    have : pw n * 1 ≤ pw n * val (u.drop n) := Int.mul_le_mul_of_nonneg_left (by omega) (by have := pw_pos n; omega)
    omega
  have hut : val (u.take n) = val u := by rw [hz, Int.mul_zero] at hsp; omega
  obtain ⟨r, hr⟩ : ∃ r, r = val a - val q * val b := ⟨_, rfl⟩
  have hus : val u = s * r := by rw [hr]; rw [hV] at hsum; grind
  have b0 := val_nonneg hb
  have r0 : 0 ≤ r := by
    apply Classical.byContradiction
    intro hc
    have : s * r ≤ s * (-1) := Int.mul_le_mul_of_nonneg_left (by omega) (by omega)
    omega
  have rb : r < val b := by
    apply Classical.byContradiction
    intro hc
    have h1 : s * val b ≤ s * r := Int.mul_le_mul_of_nonneg_left (by omega) (by omega)
    rw [Int.mul_comm s (val b)] at h1
    omega
  have ea : val a = val q * val b + r := by omega
  have e1 : val a / val b = val q := by
    rw [ea, Int.add_comm, Int.add_mul_ediv_right _ _ (by omega), Int.ediv_eq_zero_of_lt r0 rb]; omega
  have e2 : val a % val b = r := by
    rw [ea, Int.add_comm, Int.add_mul_emod_self_right]; exact Int.emod_eq_of_lt r0 rb
  refine ⟨e1.symm, ?_, dig_take h.du n⟩
  have e3 := quo_all (a := u.take n) (b := s) (by omega)
  have e4 : remD (u.take n) s 0 = 0 := by
    unfold remD
    rw [List.drop_zero, hut, hus, Int.mul_emod_right]
  rw [e4, hut, hus, Int.add_zero] at e3
  rw [e2]
  exact (Int.eq_of_mul_eq_mul_left (by omega) e3).symm
end
end Go.Ab.N
namespace Go.Ab.N
open Go Go.RowKit Go.Proofs
noncomputable section
set_option maxRecDepth 10000
set_option pp.maxSteps 60000
set_option maxHeartbeats 2000000
open Classical

/-- Digits of a number, filled up with zeros. -/
def pad (x : Int) (n : Nat) : List Int := digs x.toNat ++ List.replicate (n - (digs x.toNat).length) 0
theorem pad_val {x : Int} (h : 0 ≤ x) (n : Nat) : val (pad x n) = x := by
  unfold pad
  rw [val_app, val_zeros, digs_val]; omega
theorem pad_dig (x : Int) (n : Nat) : dig (pad x n) := dig_app.2 ⟨digs_dig _, dig_zeros _⟩
theorem pad_len {x : Int} {n : Nat} (h : 0 ≤ x) (h2 : x < pw n) : (pad x n).length = n := by
  have := digs_len_le (n := x.toNat) (k := n) (by omega)
  simp [pad]; omega
def longSt (a b v : List Int) (s : Int) (m : Nat) (p : List Int × List Int × Nat) : AS :=
  ⟨22, [117, 118, 172, 173], [ints a, ints b, .any, .any, .sl 0 0 (fun _ => .any) true, .sl 0 0 (fun _ => .any) true, I s, .osl 0 0 1 0 (a.length + 1), ints v, I b.length, .osl 1 0 1 0 m, I ((p.2.2 : Int) - 1), .any, .any, .any, .any, .any, .any, .any, .any, .any, .any],
    [], [.row 0 (a.length + 1) (slF I 0 p.1), .row 0 m (slF I 0 p.2.1)]⟩
theorem long_fn (a b : List Int) (ha : dig a) (hb : canon b) (hn : 2 ≤ b.length) (hab : b.length ≤ a.length) (la : a.length < 1000000000) :
    ∃ q r, Fn Tryz.prog 254 [ints a, ints b] (.tup [ints q, ints r]) ∧ dig q ∧ dig r ∧ q.length ≤ a.length ∧ r.length ≤ b.length ∧ val q = val a / val b ∧ val r = val a % val b := by
  have hne : b ≠ [] := fun e => by rw [e] at hn; simp at hn
  have t0 := hb.2 hne
  have t1 := dig_at hb.1 (b.length - 1)
  unfold digt at t1
  obtain ⟨s, hs⟩ : ∃ s, s = 1000000000 / (b.getD (b.length - 1) 0 + 1) := ⟨_, rfl⟩
  obtain ⟨s1, s2, s3, s4, s5, s6, s7⟩ := long_scale hb hn hs
  have ds : digt s := ⟨by omega, by omega⟩
  obtain ⟨v, hv⟩ : ∃ v, v = (scaleF b s).take b.length := ⟨_, rfl⟩
  rw [← hv] at s3 s4 s5 s6
  obtain ⟨m, hm⟩ : ∃ m, m = a.length - b.length + 1 := ⟨_, rfl⟩
  have hbeg := long_begin (v := v) ha hb hn hab hm s1 s2 s3 s7
  have c1 := scaled_own a s ha ds (by omega)
  have c2 := scaled_fn b s hb.1 ds (by omega)
  have w0 : IntKind.i64.wrap ((b.length : Int) - 1) = ((b.length - 1 : Nat) : Int) := by rw [IntKind.wrap_i64]; omega
  have w1 : IntKind.i64.wrap (b.getD (b.length - 1) 0 + 1) = b.getD (b.length - 1) 0 + 1 := by rw [IntKind.wrap_i64]; omega
  have w2 : IntKind.i64.wrap (Int.tdiv 1000000000 (b.getD (b.length - 1) 0 + 1)) = s := by
    rw [Int.tdiv_eq_ediv_of_nonneg (by omega), ← hs, IntKind.wrap_i64]; omega
  have w3 : (b.getD (b.length - 1) 0 + 1 = 0) = False := eq_false (by omega)
  have w4 : (b.length - 1 < b.length) = True := eq_true (by omega)
  have w5 : IntKind.i64.wrap ((a.length : Int) - b.length) = ((m : Nat) : Int) - 1 := by rw [IntKind.wrap_i64]; omega
  have w6 : IntKind.i64.wrap ((m : Int) - 1 + 1) = (m : Int) := by rw [IntKind.wrap_i64]; omega
  have hvn := val_lt s4
  rw [s5] at hvn
  -- the contract, told of what the division is
  have key : ∀ Q R : AV, Settled Q → Settled R → (∀ u q : List Int, longI (val a * s) v b.length m u q 0 → Q = ints q ∧ R = ints (tab (quoD (u.take b.length) s) (u.take b.length).length)) → Fn Tryz.prog 254 [ints a, ints b] (.tup [Q, R]) := by
    intro Q R sQ sR hQR
    refine Fn.intro (fn := Tryz.f254) Tryz.call254 Tryz.func254 rfl mixed 22 [117, 118, 172, 173] [] [2] (by kernel_rfl) (Nat.le_of_ble_eq_true rfl) (by simp [settled_ints]) (vc_soundN 1000 ?_)
    simp (config := { maxSteps := 2000000 }) only [AS.start, w0, w1, w2, w3, w4, Int.toNat_natCast, ↓wPre, wA, ↓reduceIte, reduceIte, reduceCtorEq, Y1, Y2, Y3, Y4, Y5, Y6, Y7, Y8, Y9, YA, zA, wN]
    refine call_heap rfl c1 (conEq_free (by simp) (by simp)) (by simp) ⟨Weak.rfl' _, Weak.rfl' _, trivial⟩ ?_
    simp (config := { maxSteps := 2000000 }) only [w0, w1, w2, w3, w4, Int.toNat_natCast, ↓wPre, wA, ↓reduceIte, reduceIte, reduceCtorEq, Y1, Y2, Y3, Y4, Y5, Y6, Y7, Y8, Y9, YA, zA, wN]
    refine call_fn c2 rfl ?_
    simp (config := { maxSteps := 2000000 }) only [w0, w1, w2, w3, w4, w5, w6, scaleF_len, Int.toNat_natCast, ↓wPre, wA, ↓reduceIte, reduceIte, reduceCtorEq, Y1, Y2, Y3, Y4, Y5, Y6, Y7, Y8, Y9, YA, zA, wN]
    refine ⟨by omega, ⟨by omega, by omega⟩, ?_⟩
    refine run_loop (longSt a b v s m) (fun p => longI (val a * s) v b.length m p.1 p.2.1 p.2.2) (fun p => p.2.2) (scaleF a s, List.replicate m 0, m) hbeg ?_ ?_
    · refine (sub_rowf 1 m (slF I 0 (List.replicate m 0)) rfl (Nat.le_refl _) ?_).trans ?_
      · intro j hj
        rw [slF_at]
        simp [List.getD_eq_getElem?_getD, List.getElem?_replicate, hj, I]
      have hwk : Weak (.sl ((b.length : Int) - 0).toNat (min ((b.length : Int) - 0).toNat (b.length + 1)) (fun j => .int .i64 ((scaleF b s).getD j 0)) false) (ints v) := weak_cut v (by omega) (by omega) fun j hj => by
        rw [hv, getD_take _ _ _ _ (by omega)]; rfl
      refine (sub_weak 8 (ints v) ?_ ?_).trans (sub_mk rfl ?_ ?_ ?_)
      · simp
      · exact hwk
      · simp [longSt, subL, ints, sl1, I]
      · simp [longSt, subT]
      · rfl
    rintro ⟨u, q, k⟩ hI next
    have hI' := hI
    simp only at hI'
    cases k with
    | zero =>
      obtain ⟨hQ, hR⟩ := hQR u q hI'
      obtain ⟨z1, z2, z3⟩ := long_end ha hb.1 hI' s1 s3 hvn
      have hul := hI'.hu
      have hql := hI'.hq
      have cs := short_fn (u.take b.length) s z3 ds (by omega) (by rw [List.length_take]; omega)
      have e1 : ((0 : Int) ≤ 0 - 1) = False := eq_false (by omega)
      have hfr : Sub (envP Tryz.prog Tryz.f254 [] [2] (.tup [Q, R])).base (longSt a b v s m (u, q, 0))
          ⟨22, [117, 118, 172, 173], [ints a, ints b, .any, .any, .sl 0 0 (fun _ => .any) true, .sl 0 0 (fun _ => .any) true, I s, ints u, ints v, I b.length, .osl 1 0 1 0 m, I (((0 : Nat) : Int) - 1), .any, .any, .any, .any, .any, .any, .any, .any, .any, .any],
          [], [.con 0 u.length (slF I 0 u), .row 0 m (slF I 0 q)]⟩ := by
        unfold longSt
        rw [show a.length + 1 = u.length by omega]
        exact sub_freeze 0 7 rfl rfl (by simp)
      refine Run.sub ?_ hfr
      refine vc_soundN 1000 ?_
      simp (config := { maxSteps := 2000000 }) only [e1, Int.toNat_natCast, ↓wPre, wA, ↓reduceIte, reduceIte, reduceCtorEq, Y1, Y2, Y3, Y4, Y5, Y6, Y7, Y8, Y9, YA, zA, wN]
      have hwk : Weak (.sl ((b.length : Int) - 0).toNat (min ((b.length : Int) - 0).toNat u.length) (fun j => .int .i64 (u.getD j 0)) false) (ints (u.take b.length)) := weak_cut (u.take b.length) (by rw [List.length_take]; omega) (by rw [List.length_take]; omega) fun j hj => by
        rw [List.length_take] at hj
        rw [getD_take _ _ _ _ (by omega)]; rfl
      rw [← hR] at cs
      refine ⟨by omega, call_weak cs ⟨hwk, Weak.rfl' _, trivial⟩ ?_⟩
      simp (config := { maxSteps := 2000000 }) only [↓wPre, wA, ↓reduceIte, reduceIte, reduceCtorEq, Y1, Y2, Y3, Y4, Y5, Y6, Y7, Y8, Y9, YA, zA, wN]
      refine ret2 rfl (sees_tup ⟨?_, sees_of sR rfl, trivial⟩)
      rw [hQ]
      exact sees_rowE settled_I rfl rfl hql.symm rfl (by omega)
    | succ j =>
      have hj : j + 1 ≤ m := hI'.hk
      have hul := hI'.hu
      have hql := hI'.hq
      have hwin := long_winI hI' s4 hn s5 s6
      obtain ⟨z, wp0, wp1, wp2, wp3, wp4, _, _⟩ := long_win hI' s4 hn s5 s6
      have du0 := dig_at hI'.du (j + b.length)
      have du1 := dig_at hI'.du (j + b.length - 1)
      have du2 := dig_at hI'.du (j + b.length - 2)
      have dv1 := dig_at s4 (b.length - 1)
      have dv2 := dig_at s4 (b.length - 2)
      unfold digt at du0 du1 du2 dv1 dv2
      have e1 : ((j + 1 : Nat) : Int) - 1 = (j : Int) := by omega
      have e2 : ((0 : Int) ≤ (j : Int)) = True := eq_true (by omega)
      have f1 : IntKind.i64.wrap ((j : Int) + b.length) = ((j + b.length : Nat) : Int) := by rw [IntKind.wrap_i64]; omega
      have f2 : IntKind.i64.wrap (((j + b.length : Nat) : Int) - 1) = ((j + b.length - 1 : Nat) : Int) := by rw [IntKind.wrap_i64]; omega
      have f4 : IntKind.i64.wrap ((b.length : Int) - 2) = ((b.length - 2 : Nat) : Int) := by rw [IntKind.wrap_i64]; omega
      have f5 : IntKind.i64.wrap (((j + b.length : Nat) : Int) - 2) = ((j + b.length - 2 : Nat) : Int) := by rw [IntKind.wrap_i64]; omega
      have i1 : (j + b.length < a.length + 1) = True := eq_true (by omega)
      have i2 : (j + b.length + 1 ≤ a.length + 1) = True := eq_true (by omega)
      have i3 : (j + b.length - 1 < a.length + 1) = True := eq_true (by omega)
      have i4 : (j + b.length - 1 + 1 ≤ a.length + 1) = True := eq_true (by omega)
      have i5 : (j + b.length - 2 < a.length + 1) = True := eq_true (by omega)
      have i6 : (j + b.length - 2 + 1 ≤ a.length + 1) = True := eq_true (by omega)
      have i7 : (b.length - 1 < v.length) = True := eq_true (by omega)
      have i8 : (b.length - 2 < v.length) = True := eq_true (by omega)
      have q1 : IntKind.i64.wrap (u.getD (j + b.length) 0 * 1000000000) = u.getD (j + b.length) 0 * 1000000000 := by rw [IntKind.wrap_i64]; omega
      have q2 : IntKind.i64.wrap (u.getD (j + b.length) 0 * 1000000000 + u.getD (j + b.length - 1) 0) = u.getD (j + b.length) 0 * 1000000000 + u.getD (j + b.length - 1) 0 := by rw [IntKind.wrap_i64]; omega
      have ht0 : 0 ≤ u.getD (j + b.length) 0 * 1000000000 + u.getD (j + b.length - 1) 0 := by omega
      have hg0 := guess_start hwin
      have q3 : IntKind.i64.wrap ((u.getD (j + b.length) 0 * 1000000000 + u.getD (j + b.length - 1) 0).tdiv (v.getD (b.length - 1) 0)) = (u.getD (j + b.length) 0 * 1000000000 + u.getD (j + b.length - 1) 0) / (v.getD (b.length - 1) 0) := by
        have h1 := hg0.g0
        have h2 := hg0.g1
        rw [Int.tdiv_eq_ediv_of_nonneg ht0, IntKind.wrap_i64]; omega
      have q4 : (u.getD (j + b.length) 0 * 1000000000 + u.getD (j + b.length - 1) 0).tmod (v.getD (b.length - 1) 0) = (u.getD (j + b.length) 0 * 1000000000 + u.getD (j + b.length - 1) 0) % (v.getD (b.length - 1) 0) := Int.tmod_eq_emod_of_nonneg ht0
      have q5 : (v.getD (b.length - 1) 0 = 0) = False := eq_false (by omega)
      refine vc_soundN 1000 ?_
      simp (config := { maxSteps := 2000000 }) only [longSt, e1, e2, f1, f2, f4, f5, w0, i1, i2, i3, i4, i5, i6, i7, i8, q1, q2, q3, q4, q5, Int.toNat_natCast, ↓wPre, wA, ↓reduceIte, reduceIte, reduceCtorEq, Y1, Y2, Y3, Y4, Y5, Y6, Y7, Y8, Y9, YA, zA, wN]
      generalize htop : u.getD (j + b.length) 0 * 1000000000 + u.getD (j + b.length - 1) 0 = top at *
      refine run_loop (fun p : Int × Int => ⟨22, [117, 118, 172, 173], [ints a, ints b, .any, .any, .sl 0 0 (fun _ => .any) true, .sl 0 0 (fun _ => .any) true, I s, .osl 0 0 1 0 (a.length + 1), ints v, I b.length, .osl 1 0 1 0 m, I j, .any, I p.1, I p.2, .any, .any, .any, .any, .any, .any, .any],
        [], [.row 0 (a.length + 1) (slF I 0 u), .row 0 m (slF I 0 q)]⟩) (fun p => guessI (val (u.drop j)) (val v) top (v.getD (b.length - 1) 0) p.1 p.2) (fun p => p.1.toNat) (top / v.getD (b.length - 1) 0, top % v.getD (b.length - 1) 0) hg0
        (sub_mk rfl (by simp [subL, ints, sl1, I]) (by simp [subT]) rfl) ?_
      rintro ⟨g, r⟩ hg next2
      simp only at hg
      have g0 := hg.g0
      have g1 := hg.g1
      have r0 := hg.r0
      have r1 := hg.r1
      have m0 : 0 ≤ g * v.getD (b.length - 2) 0 := Int.mul_nonneg g0 dv2.1
      have m1 : g * v.getD (b.length - 2) 0 ≤ 1000000001 * v.getD (b.length - 2) 0 := Int.mul_le_mul_of_nonneg_right g1 dv2.1
      have k1 : IntKind.i64.wrap (g * v.getD (b.length - 2) 0) = g * v.getD (b.length - 2) 0 := by rw [IntKind.wrap_i64]; omega
      have k2 : IntKind.i64.wrap (r * 1000000000) = r * 1000000000 := by rw [IntKind.wrap_i64]; omega
      have k3 : IntKind.i64.wrap (r * 1000000000 + u.getD (j + b.length - 2) 0) = r * 1000000000 + u.getD (j + b.length - 2) 0 := by rw [IntKind.wrap_i64]; omega
      have k4 : IntKind.i64.wrap (g - 1) = g - 1 := by rw [IntKind.wrap_i64]; omega
      have k5 : IntKind.i64.wrap (r + v.getD (b.length - 1) 0) = r + v.getD (b.length - 1) 0 := by rw [IntKind.wrap_i64]; omega
      refine vc_soundN 1000 ?_
      simp (config := { maxSteps := 2000000 }) only [e1, e2, f1, f2, f4, f5, w0, i1, i2, i3, i4, i5, i6, i7, i8, k1, k2, k3, k4, k5, Int.toNat_natCast, ↓wPre, wA, ↓reduceIte, reduceIte, reduceCtorEq, Y1, Y2, Y3, Y4, Y5, Y6, Y7, Y8, Y9, YA, zA, wN]
      generalize hF : (RunT (envP Tryz.prog Tryz.f254 [] [2] (.tup [Q, R])) _ Tag.mk) = F
      suffices fin : ∀ G RR : Int, goodG (val (u.drop j)) (val v) G → F ⟨22, [117, 118, 172, 173], [.sl a.length a.length (slF I 0 a) false, .sl b.length b.length (slF I 0 b) false, .any, .any, .sl 0 0 (fun _ => .any) true, .sl 0 0 (fun _ => .any) true, .int .i64 s, .osl 0 0 1 0 (a.length + 1), .sl v.length v.length (slF I 0 v) false, .int .i64 b.length, .osl 1 0 1 0 m, .int .i64 j, .any, .int .i64 G, .int .i64 RR, .int .i64 0, .any, .any, .any, .any, .any, .any],
          [(118, .int .i64 0), (117, .int .i64 b.length)], [.row 0 (a.length + 1) (slF I 0 u), .row 0 m (slF I 0 q)]⟩ by
        have gd : ∀ g' r', guessI (val (u.drop j)) (val v) top (v.getD (b.length - 1) 0) g' r' → g' = g - 1 → r' = r + v.getD (b.length - 1) 0 → val (u.drop j) < g * val v → g'.toNat < g.toNat := fun g' r' _ e _ hl => by
          have := guess_pos hwin hg wp0 hl
          omega
        refine ⟨fun b1 => ?_, fun b1 => ⟨fun b2 => ?_, fun b2 => fin _ _ (guess_exit hwin hg b1 (by omega))⟩⟩
        · have hl := guess_less hwin hg (.inl b1)
          refine ⟨fun b3 => fin _ _ (guess_break hwin hg wp0 hl b3), fun b3 => ?_⟩
          have hn2 := guess_next hwin hg wp0 hl b3
          exact next2 (g - 1, r + v.getD (b.length - 1) 0) _ hn2 (gd _ _ hn2 rfl rfl hl) (sub_mk rfl (by simp [subL, ints, sl1, I]) (by simp [subT]) rfl)
        · have hl := guess_less hwin hg (.inr b2)
          refine ⟨fun b3 => fin _ _ (guess_break hwin hg wp0 hl b3), fun b3 => ?_⟩
          have hn2 := guess_next hwin hg wp0 hl b3
          exact next2 (g - 1, r + v.getD (b.length - 1) 0) _ hn2 (gd _ _ hn2 rfl rfl hl) (sub_mk rfl (by simp [subL, ints, sl1, I]) (by simp [subT]) rfl)
      clear next2 hg k1 k2 k3 k4 k5 m0 m1 g0 g1 r0 r1
      subst hF
      clear g r
      intro g r hgood
      obtain ⟨g0, g1, g2, g3⟩ := hgood
      have hsub0 : subJ u v g j b.length (u, 0, 0) := ⟨Nat.zero_le _, rfl, hI'.du, Int.le_refl _, by simp, fun _ _ => rfl, by simp [val]⟩
      refine run_loop (fun p : List Int × Int × Nat => ⟨22, [117, 118, 172, 173], [ints a, ints b, .any, .any, .sl 0 0 (fun _ => .any) true, .sl 0 0 (fun _ => .any) true, I s, .osl 0 0 1 0 (a.length + 1), ints v, I b.length, .osl 1 0 1 0 m, I j, .any, I g, .any, I p.2.1, .any, .any, .any, .any, .any, .any],
        [(118, I p.2.2), (117, I b.length)], [.row 0 (a.length + 1) (slF I 0 p.1), .row 0 m (slF I 0 q)]⟩) (subJ u v g j b.length) (fun p => b.length - p.2.2) (u, 0, 0) hsub0
        (sub_mk rfl (by simp [subL, ints, sl1, I]) (by simp [subT, look, ints, sl1, I]) rfl) ?_
      rintro ⟨u', c, i⟩ hs next3
      obtain ⟨j1, j2, j3, j4, j5, j6, j7⟩ := id hs
      simp only at j1 j2 j3 j4 j5 j6 j7
      by_cases hi : i < b.length
      · obtain ⟨y0, y1, y2⟩ := subJ_step (u := u) (v := v) (g := g) (j := j) (n := b.length) s4 g0 g1 (by omega) (by omega) hi hs rfl
        have x1 := dig_at j3 (i + j)
        have x2 := dg_dig s4 i
        unfold digt at x1 x2
        have m0 : 0 ≤ g * dg v i := Int.mul_nonneg g0 x2.1
        have m1 : g * dg v i ≤ 1000000000 * dg v i := Int.mul_le_mul_of_nonneg_right g1 x2.1
        have wi := wj i (by omega)
        have eV : v.getD i 0 = dg v i := rfl
        have n1 : ((i : Int) < b.length) = True := eq_true (by omega)
        have n2 : IntKind.i64.wrap ((i : Int) + j) = ((i + j : Nat) : Int) := by rw [IntKind.wrap_i64]; omega
        have n3 : (i + j < a.length + 1) = True := eq_true (by omega)
        have n4 : (i + j + 1 ≤ a.length + 1) = True := eq_true (by omega)
        have n5 : (i < v.length) = True := eq_true (by omega)
        have n6 : (i < b.length) = True := eq_true hi
        have k1 : IntKind.i64.wrap (g * dg v i) = g * dg v i := by rw [IntKind.wrap_i64]; omega
        have k2 : IntKind.i64.wrap (u'.getD (i + j) 0 - g * dg v i) = u'.getD (i + j) 0 - g * dg v i := by rw [IntKind.wrap_i64]; omega
        have k3 : IntKind.i64.wrap (u'.getD (i + j) 0 - g * dg v i - c) = u'.getD (i + j) 0 - g * dg v i - c := by rw [IntKind.wrap_i64]; omega
        have hU : ∀ x : Int, upd (slF I 0 u') (i + j) (.int .i64 x) = slF I 0 (u'.set (i + j) x) := fun x => upd_I _ _ _ (by omega)
        generalize hw : u'.getD (i + j) 0 - g * dg v i - c = w at *
        have k4 : IntKind.i64.wrap (0 - w) = -w := by rw [IntKind.wrap_i64]; omega
        have k4' : IntKind.i64.wrap (-w) = -w := by rw [IntKind.wrap_i64]; omega
        have k5 : IntKind.i64.wrap (-w + 1000000000) = -w + 1000000000 := by rw [IntKind.wrap_i64]; omega
        have k6 : IntKind.i64.wrap (-w + 1000000000 - 1) = -w + 1000000000 - 1 := by rw [IntKind.wrap_i64]; omega
        have k8 : IntKind.i64.wrap (-(w / 1000000000) * 1000000000) = -(w / 1000000000) * 1000000000 := by rw [IntKind.wrap_i64]; omega
        have k9 : IntKind.i64.wrap (w + -(w / 1000000000) * 1000000000) = w % 1000000000 := by rw [IntKind.wrap_i64]; omega
        by_cases hw0 : w < 0
        · have k7 : IntKind.i64.wrap ((-w + 1000000000 - 1).tdiv 1000000000) = -(w / 1000000000) := by rw [Int.tdiv_eq_ediv_of_nonneg (by omega), IntKind.wrap_i64]; omega
          have hwT : (w < 0) = True := eq_true hw0
          refine vc_soundN 1000 ?_
          simp (config := { maxSteps := 2000000 }) only [wi, eV, n1, n2, n3, n4, n5, n6, k1, k2, hw, k3, k4, k4', k5, k6, k7, k8, k9, hwT, hU, Int.toNat_natCast, Int.reduceEq, ↓wPre, wA, ↓reduceIte, reduceIte, reduceCtorEq, Y1, Y2, Y3, Y4, Y5, Y6, Y7, Y8, Y9, YA, zA, wN]
          exact next3 _ _ y2 (by simp only; omega) (sub_mk rfl (by simp [subL, ints, sl1, I]) (by simp [subT, look, ints, sl1, I]) rfl)
        · have hwF : (w < 0) = False := eq_false hw0
          refine vc_soundN 1000 ?_
          simp (config := { maxSteps := 2000000 }) only [wi, eV, n1, n2, n3, n4, n5, n6, k1, k2, hw, k3, hwF, hU, Int.toNat_natCast, Int.reduceEq, ↓wPre, wA, ↓reduceIte, reduceIte, reduceCtorEq, Y1, Y2, Y3, Y4, Y5, Y6, Y7, Y8, Y9, YA, zA, wN]
          have z1 : w % 1000000000 = w := by omega
          have z2 : -(w / 1000000000) = 0 := by omega
          rw [z1, z2] at y2
          exact next3 _ _ y2 (by simp only; omega) (sub_mk rfl (by simp [subL, ints, sl1, I]) (by simp [subT, look, ints, sl1, I]) rfl)
      · obtain rfl : i = b.length := by omega
        have eT : u'.getD (j + b.length) 0 = u.getD (j + b.length) 0 := j6 _ (.inr (Nat.le_refl _))
        have hU : ∀ x : Int, upd (slF I 0 u') (j + b.length) (.int .i64 x) = slF I 0 (u'.set (j + b.length) x) := fun x => upd_I _ _ _ (by omega)
        have eS : ∀ x : Int, (u'.set (j + b.length) x).getD (j + b.length) 0 = x := fun x => by rw [getD_setI _ _ _ _ (by omega), if_pos rfl]
        have hQ1 : ∀ x : Int, upd (slF I 0 q) j (.int .i64 x) = slF I 0 (q.set j x) := fun x => upd_I _ _ _ (by omega)
        have n7 : (j < m) = True := eq_true (by omega)
        have n8 : (j + 1 ≤ m) = True := eq_true (by omega)
        have n9 : ((j : Int) < m) = True := eq_true (by omega)
        have wj1 : IntKind.i64.wrap ((j : Int) - 1) = (j : Int) - 1 := by rw [IntKind.wrap_i64]; omega
        have k1 : IntKind.i64.wrap (u.getD (j + b.length) 0 - c) = u.getD (j + b.length) 0 - c := by rw [IntKind.wrap_i64]; omega
        by_cases hx : u.getD (j + b.length) 0 - c < 0
        · have hxT : (u.getD (j + b.length) 0 - c < 0) = True := eq_true hx
          have k2 : IntKind.i64.wrap (g - 1) = g - 1 := by rw [IntKind.wrap_i64]; omega
          refine vc_soundN 1000 ?_
          simp (config := { maxSteps := 2000000 }) only [f1, i1, i2, eT, eS, hU, hQ1, n7, n8, n9, wj1, k1, k2, hxT, Int.toNat_natCast, Int.reduceEq, Int.lt_irrefl, Nat.lt_irrefl, ↓wPre, wA, ↓reduceIte, reduceIte, reduceCtorEq, Y1, Y2, Y3, Y4, Y5, Y6, Y7, Y8, Y9, YA, zA, wN]
          generalize hxx : u.getD (j + b.length) 0 - c = x at *
          have hadd0 : addJ (u'.set (j + b.length) x) v j b.length (u'.set (j + b.length) x, 0, 0) := by
            refine ⟨Nat.zero_le _, rfl, fun k hk => ?_, Int.le_refl _, by simp, fun _ _ => rfl, by simp [val]⟩
            simp only
            rw [getD_setI _ _ _ _ (by omega), if_neg hk]; exact dig_at j3 k
          refine run_loop (fun p : List Int × Int × Nat => ⟨22, [117, 118, 172, 173], [ints a, ints b, .any, .any, .sl 0 0 (fun _ => .any) true, .sl 0 0 (fun _ => .any) true, I s, .osl 0 0 1 0 (a.length + 1), ints v, I b.length, .osl 1 0 1 0 m, I j, .any, I (g - 1), .any, I p.2.1, .any, .any, .any, .any, .any, .any],
            [(173, I p.2.2), (172, I b.length)], [.row 0 (a.length + 1) (slF I 0 p.1), .row 0 m (slF I 0 q)]⟩) (addJ (u'.set (j + b.length) x) v j b.length) (fun p => b.length - p.2.2) (u'.set (j + b.length) x, 0, 0) hadd0
            (sub_mk rfl (by simp [subL, ints, sl1, I]) (by simp [subT, look, ints, sl1, I]) rfl) ?_
          rintro ⟨u2, c2, i⟩ hA next4
          obtain ⟨a1, a2, a3, a4, a5, a6, a7⟩ := id hA
          simp only [List.length_set] at a1 a2 a3 a4 a5 a6 a7
          by_cases hi : i < b.length
          · obtain ⟨y0, y1, y2⟩ := addJ_step (u := u'.set (j + b.length) x) (v := v) (j := j) (n := b.length) s4 (by omega) (by rw [List.length_set]; omega) hi hA rfl
            have x1 := a3 (i + j) (by omega)
            have x2 := dg_dig s4 i
            unfold digt at x1 x2
            have wi := wj i (by omega)
            have eV : v.getD i 0 = dg v i := rfl
            have n2 : IntKind.i64.wrap ((i : Int) + j) = ((i + j : Nat) : Int) := by rw [IntKind.wrap_i64]; omega
            have m1 : ((i : Int) < b.length) = True := eq_true (by omega)
            have m3 : (i + j < a.length + 1) = True := eq_true (by omega)
            have m4 : (i + j + 1 ≤ a.length + 1) = True := eq_true (by omega)
            have m5 : (i < v.length) = True := eq_true (by omega)
            have m6 : (i < b.length) = True := eq_true hi
            have k3 : IntKind.i64.wrap (u2.getD (i + j) 0 + dg v i) = u2.getD (i + j) 0 + dg v i := by rw [IntKind.wrap_i64]; omega
            have k4 : IntKind.i64.wrap (u2.getD (i + j) 0 + dg v i + c2) = u2.getD (i + j) 0 + dg v i + c2 := by rw [IntKind.wrap_i64]; omega
            have hU2 : ∀ x : Int, upd (slF I 0 u2) (i + j) (.int .i64 x) = slF I 0 (u2.set (i + j) x) := fun x => upd_I _ _ _ (by omega)
            generalize hw : u2.getD (i + j) 0 + dg v i + c2 = w at *
            have k5 : IntKind.i64.wrap (w.tdiv 1000000000) = w / 1000000000 := by rw [Int.tdiv_eq_ediv_of_nonneg y0, IntKind.wrap_i64]; omega
            have k6 : w.tmod 1000000000 = w % 1000000000 := Int.tmod_eq_emod_of_nonneg y0
            refine vc_soundN 1000 ?_
            simp (config := { maxSteps := 2000000 }) only [wi, eV, n2, m1, m3, m4, m5, m6, k3, hw, k4, k5, k6, hU2, Int.toNat_natCast, Int.reduceEq, ↓wPre, wA, ↓reduceIte, reduceIte, reduceCtorEq, Y1, Y2, Y3, Y4, Y5, Y6, Y7, Y8, Y9, YA, zA, wN]
            exact next4 _ _ y2 (by simp only; omega) (sub_mk rfl (by simp [subL, ints, sl1, I]) (by simp [subT, look, ints, sl1, I]) rfl)
          · obtain rfl : i = b.length := by omega
            rw [← hxx] at hA
            obtain ⟨ex, hnew, _⟩ := long_back hI' s4 s5 wp3 wp4 z wp0 g1 g3 hs (by omega) hA
            rw [hxx] at ex hnew
            have hU2 : ∀ x : Int, upd (slF I 0 u2) (j + b.length) (.int .i64 x) = slF I 0 (u2.set (j + b.length) x) := fun x => upd_I _ _ _ (by omega)
            have k3 : IntKind.i64.wrap (x + c2) = x + c2 := by rw [IntKind.wrap_i64]; omega
            refine vc_soundN 1000 ?_
            simp (config := { maxSteps := 2000000 }) only [f1, i1, i2, ex, k3, hU2, hQ1, n7, n8, n9, wj1, Int.toNat_natCast, Int.reduceEq, Int.lt_irrefl, Nat.lt_irrefl, ↓wPre, wA, ↓reduceIte, reduceIte, reduceCtorEq, Y1, Y2, Y3, Y4, Y5, Y6, Y7, Y8, Y9, YA, zA, wN]
            exact next (u2.set (j + b.length) (x + c2), q.set j (g - 1), j) _ hnew (by simp only; omega) (sub_mk rfl (by simp [longSt, subL, ints, sl1, I]) (by simp [longSt, subT]) rfl)
        · have hxF : (u.getD (j + b.length) 0 - c < 0) = False := eq_false hx
          obtain ⟨hnew, _⟩ := long_keep hI' s4 s5 wp3 wp4 z wp1 g0 g2 hs hx
          refine vc_soundN 1000 ?_
          simp (config := { maxSteps := 2000000 }) only [f1, i1, i2, eT, eS, hU, hQ1, n7, n8, n9, wj1, k1, hxF, Int.toNat_natCast, Int.reduceEq, Int.lt_irrefl, Nat.lt_irrefl, ↓wPre, wA, ↓reduceIte, reduceIte, reduceCtorEq, Y1, Y2, Y3, Y4, Y5, Y6, Y7, Y8, Y9, YA, zA, wN]
          exact next (u'.set (j + b.length) (u.getD (j + b.length) 0 - c), q.set j g, j) _ hnew (by simp only; omega) (sub_mk rfl (by simp [longSt, subL, ints, sl1, I]) (by simp [longSt, subT]) rfl)
  have b0 : 0 < val b := by
    have := canon_ge hb hne
    have := pw_pos (b.length - 1)
    omega
  have a0 := val_nonneg ha
  have x0 : 0 ≤ val a / val b := Int.ediv_nonneg a0 (by omega)
  have x1 : val a / val b < pw m := by
    refine Int.ediv_lt_of_lt_mul b0 ?_
    have h1 := val_lt ha
    have h2 := canon_ge hb hne
    have h3 : pw m * pw (b.length - 1) ≤ pw m * val b := Int.mul_le_mul_of_nonneg_left h2 (by have := pw_pos m; omega)
    rw [← pw_add, show m + (b.length - 1) = a.length by omega] at h3
    omega
  have y0 : 0 ≤ val a % val b := Int.emod_nonneg _ (by omega)
  have y1 : val a % val b < pw b.length := by
    have h1 := Int.emod_lt_of_pos (val a) b0
    have h2 := val_lt hb.1
    omega
  refine ⟨pad (val a / val b) m, pad (val a % val b) b.length, key _ _ (settled_ints _) (settled_ints _) fun u q hI => ?_, pad_dig _ _, pad_dig _ _, by rw [pad_len x0 x1]; omega, by rw [pad_len y0 y1]; omega, pad_val x0 _, pad_val y0 _⟩
  obtain ⟨z1, z2, z3⟩ := long_end ha hb.1 hI s1 s3 hvn
  have hul := hI.hu
  constructor
  · rw [val_inj (pad_dig _ _) hI.dq (by rw [pad_len x0 x1, hI.hq]) (by rw [pad_val x0, z1])]
  · have hd : dig (tab (quoD (u.take b.length) s) (u.take b.length).length) := dig_tab fun i _ => quoD_dig z3 (by omega) i
    have hlen : (pad (val a % val b) b.length).length = (tab (quoD (u.take b.length) s) (u.take b.length).length).length := by
      rw [pad_len y0 y1, tab_len, List.length_take]; omega
    rw [val_inj (pad_dig _ _) hd hlen (by rw [pad_val y0, z2])]
end
end Go.Ab.N
namespace Go.Ab.N
open Go Go.Ab
open Classical
noncomputable section
/-- The denominator as it is kept: none for 1. -/
def qd (r : Rat) : Nat := if r.den = 1 then 0 else r.den
def qC (r : Rat) : List AV := [.bool (decide (r.num < 0)), ints (digs r.num.natAbs), .bool false, ints (digs (qd r))]
def qA (r : Rat) : AV := .agg (qC r)
theorem settled_qA (r : Rat) : Settled (qA r) := settled_agg (by simp [qC, settled_ints, settled_bool])
/-- How many digits the parts have. -/
def qb (r : Rat) : Nat := max (bl r.num) (bl r.den)
theorem qb_num (r : Rat) : bl r.num ≤ qb r := Nat.le_max_left _ _
theorem qb_den (r : Rat) : bl r.den ≤ qb r := Nat.le_max_right _ _
theorem qb_neg (r : Rat) : qb (-r) = qb r := by unfold qb; rw [Rat.neg_num, Rat.neg_den, bl_neg]
theorem divInt_parts (p q : Int) (h : q ≠ 0) : ∃ m : Int, m ≠ 0 ∧ p = (Rat.divInt p q).num * m ∧ q = (Rat.divInt p q).den * m :=
  Rat.divInt_num_den h (n' := (Rat.divInt p q).num) (d' := (Rat.divInt p q).den) (z' := (Rat.divInt p q).den_nz) (c := (Rat.divInt p q).reduced) rfl
theorem natAbs_le_mul {x y m : Int} (hm : m ≠ 0) (h : x = y * m) : y.natAbs ≤ x.natAbs := by
  rw [h, Int.natAbs_mul]
  exact Nat.le_mul_of_pos_right _ (by omega)
theorem qb_divInt (p q : Int) (k : Nat) (hk : 1 ≤ k) (hp : bl p ≤ k) (hq : bl q ≤ k) : qb (Rat.divInt p q) ≤ k := by
  by_cases h : q = 0
  · subst h
    rw [Rat.divInt_zero]
    have h1 : bl (0 : Rat).num = 0 := by rw [Rat.zero_num]; unfold bl; simp [digs_zero]
    have h2 : bl ((0 : Rat).den : Int) ≤ 1 := by rw [Rat.zero_den]; exact bl_le (by simp [pw])
    unfold qb; omega
  · obtain ⟨m, h1, h2, h3⟩ := divInt_parts p q h
    have h4 := bl_mono (natAbs_le_mul h1 h2)
    have h5 := bl_mono (natAbs_le_mul h1 h3)
    unfold qb; omega
theorem den_bl (r : Rat) : 1 ≤ bl r.den := by
  have := r.den_nz
  unfold bl
  rw [Int.natAbs_natCast]
  have : digs r.den ≠ [] := digs_ne r.den_nz
  exact Nat.one_le_iff_ne_zero.2 fun h => this (List.length_eq_zero_iff.1 h)
theorem qb_pos (r : Rat) : 1 ≤ qb r := Nat.le_trans (den_bl r) (qb_den r)
theorem mkRat_divInt (n : Int) (d : Nat) : mkRat n d = Rat.divInt n d := (Rat.divInt_ofNat n d).symm
theorem qb_add (a b : Rat) : qb (a + b) ≤ qb a + qb b + 1 := by
  rw [Rat.add_def', mkRat_divInt]
  have h1 := bl_mul a.num b.den
  have h2 := bl_mul b.num a.den
  have h3 := bl_mul a.den b.den
  have h4 := bl_add (a.num * b.den) (b.num * a.den)
  have := qb_num a; have := qb_num b; have := qb_den a; have := qb_den b
  have := qb_pos a
  refine qb_divInt _ _ _ (by omega) (by omega) ?_
  push_cast; omega
theorem qb_mul (a b : Rat) : qb (a * b) ≤ qb a + qb b := by
  rw [Rat.mul_def', mkRat_divInt]
  have h1 := bl_mul a.num b.num
  have h3 := bl_mul a.den b.den
  have := qb_num a; have := qb_num b; have := qb_den a; have := qb_den b
  have := qb_pos a
  refine qb_divInt _ _ _ (by omega) (by omega) ?_
  push_cast; omega
theorem qb_sub (a b : Rat) : qb (a - b) ≤ qb a + qb b + 1 := by
  have := qb_add a (-b)
  rw [qb_neg, ← Rat.sub_eq_add_neg] at this
  exact this
theorem qb_int (n : Int) (k : Nat) (hk : 1 ≤ k) (h : bl n ≤ k) : qb (n : Rat) ≤ k := by
  unfold qb
  rw [Rat.num_intCast, Rat.den_intCast]
  have : bl ((1 : Nat) : Int) ≤ 1 := bl_le (by simp [pw])
  omega
/-- The value of a quotient of numbers without a common divisor. -/
theorem divInt_low (p q : Int) (hq : q ≠ 0) (h : Int.gcd p q = 1) : (Rat.divInt p q).num = q.sign * p ∧ (Rat.divInt p q).den = q.natAbs := by
  have hg : Int.gcd q p = 1 := by rw [Int.gcd_comm]; exact h
  rw [Rat.num_divInt, Rat.den_divInt, hg, if_neg hq]
  simp
theorem divInt_of_parts (p q : Int) (hq : q ≠ 0) (g : Int) (hg : g = Int.gcd p q) : Rat.divInt (p / g) (q / g) = Rat.divInt p q ∧ Int.gcd (p / g) (q / g) = 1 ∧ q / g ≠ 0 := by
  have hg0 : 0 < Int.gcd p q := Int.gcd_pos_of_ne_zero_right _ hq
  obtain ⟨x, hx⟩ : ∃ x, p = g * x := by
    have := Int.gcd_dvd_left p q
    rw [hg]; exact this
  obtain ⟨y, hy⟩ : ∃ y, q = g * y := by
    have := Int.gcd_dvd_right p q
    rw [hg]; exact this
  have hgne : g ≠ 0 := by omega
  have e1 : p / g = x := by rw [hx]; exact Int.mul_ediv_cancel_left _ hgne
  have e2 : q / g = y := by rw [hy]; exact Int.mul_ediv_cancel_left _ hgne
  rw [e1, e2]
  have e3 : Int.gcd p q = g.natAbs * Int.gcd x y := by
    conv => lhs; rw [hx, hy]
    exact Int.gcd_mul_left ..
  refine ⟨?_, ?_, fun h => hq (by rw [hy, h]; simp)⟩
  · conv => rhs; rw [hx, hy]
    exact (Rat.divInt_mul_left hgne).symm
  · have e4 : g.natAbs = Int.gcd p q := by omega
    rw [e4] at e3
    exact (Nat.eq_of_mul_eq_mul_left hg0 (by omega)).symm
end
end Go.Ab.N
namespace Go.Ab.N
open Go Go.RowKit Go.Proofs
noncomputable section
set_option maxRecDepth 10000
set_option maxHeartbeats 2000000
open Classical

theorem resAt_ref {P : Program} {s : AS} {t u id ver n : Nat} {L : List AV} (hk : ldk P u = some (some n)) (hs : s.get t = .ref id ver 0) (ho : s.h[id]? = some (.row ver n (ofL L))) (hn : L.length = n) :
    resAt P s (.cell t u) = some (.agg L) := by
  subst hn
  unfold resAt
  simp only
  rw [hs, aload_K, hk, aloadK_ref, ho, aloadR_row, rd_s, cells_ofL L _ _ (by omega)]
  simp [oif]
theorem retRef2 {P : Program} {fn : Func} {str hcs : List Nat} {a b x y : AV} {s : AS} {r1 r2 : ResultVar} (hr : fn.results = #[r1, r2]) (h1 : resAt P s r1 = some x) (h2 : resAt P s r2 = some y) (g1 : Sees s.h x a) (g2 : Sees s.h y b) :
    RetOk (envP P fn str hcs (.tup [a, b])) s :=
  ⟨.tup [x, y], by simp [resV, envP_P, envP_fn, hr, resList, packR, h1, h2], sees_tup ⟨g1, g2, trivial⟩⟩
theorem sees_zc {H : List AO} {z : Int} {L M : List AV} (e : zA z = .agg M) (h : WeakL L M) : Sees H (.agg L) (zA z) := by
  have := settled_zA z
  rw [e] at this ⊢
  exact sees_of_weak this (weak_agg h)
theorem sees_z0 {H : List AO} {z : Int} (hz : z = 0) (f : Nat → AV) (t : Bool) : Sees H (.agg [.bool false, .sl 0 0 f t]) (zA z) := by
  subst hz
  exact sees_zc (M := [.bool false, ints []]) (by unfold zA; simp [digs_zero]) ⟨Weak.rfl' _, weak_emp _ _, trivial⟩
theorem sees_zz {H : List AO} {z : Int} {L : List AV} (e : zA z = .agg L) : Sees H (.agg L) (zA z) := sees_zc e (weakL_rfl _)

theorem bl_nat (n : Nat) : bl (n : Int) = (digs n).length := by unfold bl; rw [Int.natAbs_natCast]
theorem zA_nat (n : Nat) : zA (n : Int) = .agg [.bool false, ints (digs n)] := by
  unfold zA
  rw [Int.natAbs_natCast, decide_eq_false (by omega)]
theorem digs_lt_len {n k : Nat} (h : (digs n).length ≤ k) : (n : Int) < pw k := by
  have h1 := digs_lt n
  have h2 := pw_mono h
  omega
theorem digs_len2 {n : Nat} (h : (digs n).length ≤ 2) : (n : Int) < 1000000000000000000 := by
  have := digs_lt_len h
  simpa [pw] using this
theorem divide_fn (A B : Nat) (hA : (digs A).length < 1000000000) (hB : (digs B).length < 1000000000) (hB0 : B ≠ 0) :
    Fn Tryz.prog 227 [ints (digs A), ints (digs B)] (.tup [zA ((A / B : Nat) : Int), zA ((A % B : Nat) : Int)]) := by
  have dA := digs_dig A
  have dB := digs_dig B
  have vA := digs_val A
  have vB := digs_val B
  have c1 := two_fn _ dA
  have c2 := two_fn _ dB
  rw [vA] at c1
  rw [vB] at c2
  have c3 := compare_fn _ _ (digs_canon A) (digs_canon B) (by omega)
  rw [vA, vB] at c3
  obtain ⟨Q, hQ⟩ : ∃ Q, Q = zA ((A / B : Nat) : Int) := ⟨_, rfl⟩
  obtain ⟨R, hR⟩ : ∃ R, R = zA ((A % B : Nat) : Int) := ⟨_, rfl⟩
  have sQ : Settled Q := hQ ▸ settled_zA _
  have sR : Settled R := hR ▸ settled_zA _
  have ofC : ∀ L : List Int, dig L → L.length < 1000000001 → ∀ z : Nat, val L = z → Fn Tryz.prog 208 [.bool false, ints L] (.agg [.bool false, ints (digs z)]) := fun L h1 h2 z h3 => by
    have := of_z false L h1 (by omega)
    rw [h3] at this
    rw [← zA_nat]; exact this
  have p1 : (digs A).length ≤ 2 → (digs B).length ≤ 2 → IntKind.u64.wrap (IntKind.i64.wrap ((A : Int).tdiv B)) = ((A / B : Nat) : Int) ∧ IntKind.u64.wrap ((A : Int).tmod B) = ((A % B : Nat) : Int) ∧ Fn Tryz.prog 207 [.bool false, .int .u64 ((A / B : Nat) : Int)] (.agg [.bool false, ints (digs (A / B))]) ∧ Fn Tryz.prog 207 [.bool false, .int .u64 ((A % B : Nat) : Int)] (.agg [.bool false, ints (digs (A % B))]) := fun h1 h2 => by
    have l1 := digs_len2 h1
    have l2 := digs_len2 h2
    have e1 : (A : Int).tdiv B = ((A / B : Nat) : Int) := rfl
    have e2 : (A : Int).tmod B = ((A % B : Nat) : Int) := rfl
    have l3 : A / B ≤ A := Nat.div_le_self A B
    have l4 : A % B ≤ A := Nat.mod_le A B
    rw [e1, e2, ← zA_nat, ← zA_nat]
    generalize A / B = q at *
    generalize A % B = r at *
    refine ⟨?_, ?_, unsigned_fn false _ (by omega) (by omega), unsigned_fn false _ (by omega) (by omega)⟩
    · have w1 : IntKind.i64.wrap (q : Int) = q := by rw [IntKind.wrap_i64]; omega
      rw [w1, IntKind.wrap_u64]; omega
    · rw [IntKind.wrap_u64]; omega
  have eQ2 := hQ.trans (zA_nat (A / B))
  have eR2 := hR.trans (zA_nat (A % B))
  rw [← hQ, ← hR]
  have ret : ∀ {s : AS}, resAt Tryz.prog s (.cell 4 26) = some (.agg [.bool false, ints (digs (A / B))]) → resAt Tryz.prog s (.cell 5 26) = some (.agg [.bool false, ints (digs (A % B))]) → RetOk (envP Tryz.prog Tryz.f227 [] [] (.tup [Q, R])) s := fun h1 h2 =>
    retRef2 rfl h1 h2 (sees_of sQ eQ2.symm) (sees_of sR eR2.symm)
  have cofA := ofC _ dA (by omega) _ vA
  have hB1 : (B : Int) = 0 → False := fun h => hB0 (by omega)
  by_cases hAB : (digs A).length ≤ 2 ∧ (digs B).length ≤ 2
  · obtain ⟨w1, w2, cq, cr⟩ := p1 hAB.1 hAB.2
    have f1 : ((digs A).length ≤ 2) = True := eq_true hAB.1
    have f2 : ((digs B).length ≤ 2) = True := eq_true hAB.2
    have f3 : ((B : Int) = 0) = False := eq_false hB1
    simp only [f1, decide_true, ite_true] at c1
    simp only [f2, decide_true, ite_true] at c2
    refine Fn.intro (fn := Tryz.f227) Tryz.call227 Tryz.func227 rfl mixed 14 [] [] [] (by kernel_rfl) (Nat.le_of_ble_eq_true rfl) (by simp [settled_ints, settled_I, settled_fn0, settled_intss, settled_bool, settled_nil, settled_zA, settled_ofA, settled_int]) (vc_soundN 1000 ?_); simp (config := { maxSteps := 2000000 }) only [AS.start, ↓wPre, wA, ↓reduceIte, reduceIte, reduceCtorEq, Y1, Y2, Y3, Y4, Y5, Y6, Y7, Y8, Y9, YA, zA, wN]
    refine call_fn c1 rfl ?_
    simp only [↓wPre, wA, ↓reduceIte, reduceIte, reduceCtorEq, Y1, Y2, Y3, Y4, Y5, Y6, Y7, Y8, Y9, YA, zA, wN]
    refine call_fn c2 rfl ?_
    simp only [f3, w1, w2, ↓wPre, wA, ↓reduceIte, reduceIte, reduceCtorEq, Y1, Y2, Y3, Y4, Y5, Y6, Y7, Y8, Y9, YA, zA, wN]
    refine call_fn cq rfl ?_
    simp only [f3, w1, w2, ↓wPre, wA, ↓reduceIte, reduceIte, reduceCtorEq, Y1, Y2, Y3, Y4, Y5, Y6, Y7, Y8, Y9, YA, zA, wN]
    refine call_fn cr rfl ?_
    simp only [↓wPre, wA, ↓reduceIte, reduceIte, reduceCtorEq, Y1, Y2, Y3, Y4, Y5, Y6, Y7, Y8, Y9, YA, zA, wN]
    exact ret (resAt_ref ldk26 rfl rfl rfl) (resAt_ref ldk26 rfl rfl rfl)
  -- what follows behind the two looks at few digits
  have lessK : A < B → Fn Tryz.prog 215 [ints (digs A), ints (digs B)] (I (-1)) := fun h => by
    rw [Int.sign_eq_neg_one_of_neg (show (A : Int) - B < 0 by omega)] at c3; exact c3
  have lessR : A < B → A / B = 0 ∧ A % B = A := fun h => ⟨Nat.div_eq_of_lt h, Nat.mod_eq_of_lt h⟩
  have w3 : ((-1 : Int) < 0) = True := eq_true (by omega)
  by_cases hA2 : (digs A).length ≤ 2
  · have hB2 : ¬ (digs B).length ≤ 2 := fun h => hAB ⟨hA2, h⟩
    have hlt : A < B := by
      have := canon_lt (digs_canon A) (digs_canon B) (by omega)
      rw [vA, vB] at this; omega
    obtain ⟨r1, r2⟩ := lessR hlt
    have f1 : ((digs A).length ≤ 2) = True := eq_true hA2
    have f2 : ((digs B).length ≤ 2) = False := eq_false hB2
    simp only [f1, decide_true, ite_true] at c1
    simp only [f2, decide_false, ite_false] at c2
    refine Fn.intro (fn := Tryz.f227) Tryz.call227 Tryz.func227 rfl mixed 14 [] [] [] (by kernel_rfl) (Nat.le_of_ble_eq_true rfl) (by simp [settled_ints, settled_I, settled_fn0, settled_intss, settled_bool, settled_nil, settled_zA, settled_ofA, settled_int]) (vc_soundN 1000 ?_); simp (config := { maxSteps := 2000000 }) only [AS.start, ↓wPre, wA, ↓reduceIte, reduceIte, reduceCtorEq, Y1, Y2, Y3, Y4, Y5, Y6, Y7, Y8, Y9, YA, zA, wN]
    refine call_fn c1 rfl ?_
    simp only [↓wPre, wA, ↓reduceIte, reduceIte, reduceCtorEq, Y1, Y2, Y3, Y4, Y5, Y6, Y7, Y8, Y9, YA, zA, wN]
    refine call_fn c2 rfl ?_
    simp only [↓wPre, wA, ↓reduceIte, reduceIte, reduceCtorEq, Y1, Y2, Y3, Y4, Y5, Y6, Y7, Y8, Y9, YA, zA, wN]
    refine call_fn (lessK hlt) rfl ?_
    simp only [w3, ↓wPre, wA, ↓reduceIte, reduceIte, reduceCtorEq, Y1, Y2, Y3, Y4, Y5, Y6, Y7, Y8, Y9, YA, zA, wN]
    refine call_fn cofA rfl ?_
    simp only [↓wPre, wA, ↓reduceIte, reduceIte, reduceCtorEq, Y1, Y2, Y3, Y4, Y5, Y6, Y7, Y8, Y9, YA, zA, wN]
    exact retRef2 rfl (resAt_ref ldk26 rfl rfl rfl) (resAt_ref ldk26 rfl rfl rfl) (by rw [hQ]; exact sees_z0 (by rw [r1]; rfl) _ _) (sees_of sR (by rw [eR2, r2]; rfl))
  have f1 : ((digs A).length ≤ 2) = False := eq_false hA2
  simp only [f1, decide_false, ite_false] at c1
  by_cases hlt : A < B
  · obtain ⟨r1, r2⟩ := lessR hlt
    refine Fn.intro (fn := Tryz.f227) Tryz.call227 Tryz.func227 rfl mixed 14 [] [] [] (by kernel_rfl) (Nat.le_of_ble_eq_true rfl) (by simp [settled_ints, settled_I, settled_fn0, settled_intss, settled_bool, settled_nil, settled_zA, settled_ofA, settled_int]) (vc_soundN 1000 ?_); simp (config := { maxSteps := 2000000 }) only [AS.start, ↓wPre, wA, ↓reduceIte, reduceIte, reduceCtorEq, Y1, Y2, Y3, Y4, Y5, Y6, Y7, Y8, Y9, YA, zA, wN]
    refine call_fn c1 rfl ?_
    simp only [↓wPre, wA, ↓reduceIte, reduceIte, reduceCtorEq, Y1, Y2, Y3, Y4, Y5, Y6, Y7, Y8, Y9, YA, zA, wN]
    refine call_fn (lessK hlt) rfl ?_
    simp only [w3, ↓wPre, wA, ↓reduceIte, reduceIte, reduceCtorEq, Y1, Y2, Y3, Y4, Y5, Y6, Y7, Y8, Y9, YA, zA, wN]
    refine call_fn cofA rfl ?_
    simp only [↓wPre, wA, ↓reduceIte, reduceIte, reduceCtorEq, Y1, Y2, Y3, Y4, Y5, Y6, Y7, Y8, Y9, YA, zA, wN]
    exact retRef2 rfl (resAt_ref ldk26 rfl rfl rfl) (resAt_ref ldk26 rfl rfl rfl) (by rw [hQ]; exact sees_z0 (by rw [r1]; rfl) _ _) (sees_of sR (by rw [eR2, r2]; rfl))
  obtain ⟨sg, hsg⟩ : ∃ sg, sg = ((A : Int) - B).sign := ⟨_, rfl⟩
  have hsg0 : (sg < 0) = False := eq_false (by rw [hsg, Int.sign_neg_iff]; omega)
  rw [← hsg] at c3
  have hBA : (digs B).length ≤ (digs A).length := by
    have := bl_mono (y := (B : Int)) (z := (A : Int)) (by omega)
    rwa [bl_nat, bl_nat] at this
  by_cases hB1' : (digs B).length = 1
  · obtain ⟨d, hd⟩ := List.length_eq_one_iff.1 hB1'
    have hdd : digt d := dB d (by rw [hd]; simp)
    have hdB : d = B := by rw [← vB, hd]; simp [val]
    have hd0 : d ≠ 0 := by omega
    have cs := short_fn (digs A) d dA hdd hd0 (by omega)
    rw [vA, hdB] at cs
    have dq : dig (tab (quoD (digs A) B) (digs A).length) := dig_tab fun i _ => quoD_dig dA (by omega) i
    have vq : val (tab (quoD (digs A) B) (digs A).length) = ((A / B : Nat) : Int) := by
      have h1 := quo_all (a := digs A) (b := (B : Int)) (by omega)
      rw [vA] at h1
      have h2 : remD (digs A) B 0 = (A : Int) % B := by unfold remD; rw [List.drop_zero, vA]
      rw [h2] at h1
      have h3 := Int.emod_add_mul_ediv (A : Int) B
      have h4 : (B : Int) * val (tab (quoD (digs A) B) (digs A).length) = B * ((A : Int) / B) := by omega
      rw [Int.eq_of_mul_eq_mul_left (by omega) h4]; rfl
    have cq := ofC _ dq (by rw [tab_len]; omega) _ vq
    generalize tab (quoD (digs A) B) (digs A).length = L at *
    have em : (A : Int) % B = ((A % B : Nat) : Int) := rfl
    have wm : IntKind.u64.wrap ((A % B : Nat) : Int) = ((A % B : Nat) : Int) := by
      have h1 : A % B < B := Nat.mod_lt _ (by omega)
      unfold digt at hdd
      generalize A % B = r at *
      rw [IntKind.wrap_u64]; omega
    have cr : Fn Tryz.prog 207 [.bool false, .int .u64 ((A % B : Nat) : Int)] (.agg [.bool false, ints (digs (A % B))]) := by
      have h1 : A % B < B := Nat.mod_lt _ (by omega)
      unfold digt at hdd
      rw [← zA_nat]
      generalize A % B = r at *
      exact unsigned_fn false _ (by omega) (by omega)
    rw [em] at cs
    have f2 : (((digs B).length : Int) = 1) = True := eq_true (by omega)
    have f2' : ((digs B).length = 1) = True := eq_true hB1'
    have f3 : (0 < (digs B).length) = True := eq_true (by omega)
    have f4 : (digs B).getD 0 0 = (B : Int) := by rw [hd, ← hdB]; rfl
    refine Fn.intro (fn := Tryz.f227) Tryz.call227 Tryz.func227 rfl mixed 14 [] [] [] (by kernel_rfl) (Nat.le_of_ble_eq_true rfl) (by simp [settled_ints, settled_I, settled_fn0, settled_intss, settled_bool, settled_nil, settled_zA, settled_ofA, settled_int]) (vc_soundN 1000 ?_); simp (config := { maxSteps := 2000000 }) only [AS.start, ↓wPre, wA, ↓reduceIte, reduceIte, reduceCtorEq, Y1, Y2, Y3, Y4, Y5, Y6, Y7, Y8, Y9, YA, zA, wN]
    refine call_fn c1 rfl ?_
    simp only [↓wPre, wA, ↓reduceIte, reduceIte, reduceCtorEq, Y1, Y2, Y3, Y4, Y5, Y6, Y7, Y8, Y9, YA, zA, wN]
    refine call_fn c3 rfl ?_
    simp only [hsg0, f2, f2', f3, f4, ↓wPre, wA, ↓reduceIte, reduceIte, reduceCtorEq, Y1, Y2, Y3, Y4, Y5, Y6, Y7, Y8, Y9, YA, zA, wN]
    refine ⟨by omega, call_fn cs rfl ?_⟩
    simp only [↓wPre, wA, ↓reduceIte, reduceIte, reduceCtorEq, Y1, Y2, Y3, Y4, Y5, Y6, Y7, Y8, Y9, YA, zA, wN]
    refine call_fn cq rfl ?_
    simp only [wm, ↓wPre, wA, ↓reduceIte, reduceIte, reduceCtorEq, Y1, Y2, Y3, Y4, Y5, Y6, Y7, Y8, Y9, YA, zA, wN]
    refine call_fn cr rfl ?_
    simp only [↓wPre, wA, ↓reduceIte, reduceIte, reduceCtorEq, Y1, Y2, Y3, Y4, Y5, Y6, Y7, Y8, Y9, YA, zA, wN]
    exact ret (resAt_ref ldk26 rfl rfl rfl) (resAt_ref ldk26 rfl rfl rfl)
  · have hB2 : 2 ≤ (digs B).length := by
      have : digs B ≠ [] := digs_ne hB0
      have : (digs B).length ≠ 0 := fun h => this (List.length_eq_zero_iff.1 h)
      omega
    obtain ⟨q, r, cl, dq, dr, lq, lr, vq, vr⟩ := long_fn (digs A) (digs B) dA (digs_canon B) hB2 hBA hA
    rw [vA, vB] at vq vr
    have cq := ofC q dq (by omega) (A / B) (by rw [vq]; rfl)
    have cr := ofC r dr (by omega) (A % B) (by rw [vr]; rfl)
    have f2' : ((digs B).length = 1) = False := eq_false hB1'
    refine Fn.intro (fn := Tryz.f227) Tryz.call227 Tryz.func227 rfl mixed 14 [] [] [] (by kernel_rfl) (Nat.le_of_ble_eq_true rfl) (by simp [settled_ints, settled_I, settled_fn0, settled_intss, settled_bool, settled_nil, settled_zA, settled_ofA, settled_int]) (vc_soundN 1000 ?_); simp (config := { maxSteps := 2000000 }) only [AS.start, ↓wPre, wA, ↓reduceIte, reduceIte, reduceCtorEq, Y1, Y2, Y3, Y4, Y5, Y6, Y7, Y8, Y9, YA, zA, wN]
    refine call_fn c1 rfl ?_
    simp only [↓wPre, wA, ↓reduceIte, reduceIte, reduceCtorEq, Y1, Y2, Y3, Y4, Y5, Y6, Y7, Y8, Y9, YA, zA, wN]
    refine call_fn c3 rfl ?_
    simp only [hsg0, f2', ↓wPre, wA, ↓reduceIte, reduceIte, reduceCtorEq, Y1, Y2, Y3, Y4, Y5, Y6, Y7, Y8, Y9, YA, zA, wN]
    refine ⟨fun h => absurd h (by omega), fun _ => call_fn cl rfl ?_⟩
    simp only [↓wPre, wA, ↓reduceIte, reduceIte, reduceCtorEq, Y1, Y2, Y3, Y4, Y5, Y6, Y7, Y8, Y9, YA, zA, wN]
    refine call_fn cq rfl ?_
    simp only [↓wPre, wA, ↓reduceIte, reduceIte, reduceCtorEq, Y1, Y2, Y3, Y4, Y5, Y6, Y7, Y8, Y9, YA, zA, wN]
    refine call_fn cr rfl ?_
    simp only [↓wPre, wA, ↓reduceIte, reduceIte, reduceCtorEq, Y1, Y2, Y3, Y4, Y5, Y6, Y7, Y8, Y9, YA, zA, wN]
    exact ret (resAt_ref ldk26 rfl rfl rfl) (resAt_ref ldk26 rfl rfl rfl)
end
end Go.Ab.N
