/- Contracts of functions of this chapter, for every argument that fits, and what they need. -/
import Derived.Test.YtfjcglohkajbhaaQ16
set_option linter.unusedSimpArgs false
set_option linter.unusedVariables false
namespace Go.Ab.Q
open Go Go.RowKit Go.Proofs
noncomputable section
set_option maxRecDepth 10000
set_option maxHeartbeats 1000000
set_option linter.unusedSimpArgs false
open Classical

/-! ### Proper worlds are told apart -/
theorem lst_nodup (p : Nat → Bool) (n : Nat) : (lst p n).Nodup := by
  unfold lst
  exact List.pairwise_map.2 (List.Pairwise.imp (fun h e => h (Int.ofNat.inj e)) (List.Nodup.sublist List.filter_sublist List.nodup_range))
theorem proper_apart {W C : List Int} (h : properF W C = 0) {s : List Int} (hn : s.Nodup) (hs : ∀ i ∈ s, 0 ≤ i ∧ i < W.length) : Apart W C s := by
  obtain ⟨⟨h1, h2, h3⟩, hw, hc⟩ := proper_size h
  refine ⟨hn, ?_⟩
  have key : ∀ i j : Nat, i < j → j < W.length → ∃ k : Nat, k < C.length ∧ tb (W.getD i 0) k ≠ tb (W.getD j 0) k := by
    intro i j hij hj
    obtain ⟨a1, a2, a3⟩ := hw i (by omega)
    obtain ⟨b1, b2, b3⟩ := hw j hj
    have hne : W.getD i 0 ≠ W.getD j 0 := fun e => b3 (by rw [← e, ← getD_take W 0 i j hij]; exact getD_mem (by simp; omega))
    obtain ⟨x, hx⟩ := Int.eq_ofNat_of_zero_le a1
    obtain ⟨y, hy⟩ := Int.eq_ofNat_of_zero_le b1
    rw [hx, hy] at hne
    rw [hx] at a2; rw [hy] at b2
    have hp : (2 : Int) ^ C.length = ((2 ^ C.length : Nat) : Int) := by simp
    rw [hp] at a2 b2
    have x2 : x < 2 ^ C.length := Int.ofNat_lt.1 a2
    have y2 : y < 2 ^ C.length := Int.ofNat_lt.1 b2
    have hle : 2 ^ C.length ≤ 2 ^ 8 := Nat.pow_le_pow_right (by omega) h3
    by_cases hall : ∀ k, k < C.length → tb (W.getD i 0) k = tb (W.getD j 0) k
    · exfalso
      apply hne
      congr 1
      apply Nat.eq_of_testBit_eq
      intro k
      by_cases hk : k < C.length
      · have := hall k hk
        rw [hx, hy, tb_nat x k (by omega) (by omega), tb_nat y k (by omega) (by omega)] at this
        exact this
      · have hm : 2 ^ C.length ≤ 2 ^ k := Nat.pow_le_pow_right (by omega) (by omega)
        rw [Nat.testBit_lt_two_pow (by omega), Nat.testBit_lt_two_pow (by omega)]
    · simp only [not_forall] at hall
      obtain ⟨k, hk, hd⟩ := hall
      exact ⟨k, hk, hd⟩
  intro i hi j hj hne
  have ⟨i1, i2⟩ := hs i hi
  have ⟨j1, j2⟩ := hs j hj
  rcases Nat.lt_or_gt_of_ne (show i.toNat ≠ j.toNat by omega) with hlt | hlt
  · exact key _ _ hlt (by omega)
  · obtain ⟨k, hk, hd⟩ := key _ _ hlt (by omega)
    exact ⟨k, hk, hd.symm⟩

/-! ### The table of costs -/
def cst1 (W C s : List Int) : Int := max 0 (best W C s).2
def costL (W C : List Int) (n : Nat) : List Int := (List.range n).map fun i : Nat => cst1 W C (mem8 i)
theorem costL_succ (W C : List Int) (n : Nat) : costL W C (n + 1) = costL W C n ++ [cst1 W C (mem8 n)] := by simp [costL, List.range_succ]
theorem costL_len (W C : List Int) (n : Nat) : (costL W C n).length = n := by simp [costL]
theorem costL_at (W C : List Int) (n i : Nat) (h : i < n) : (costL W C n).getD i 0 = cst1 W C (mem8 i) := by
  unfold costL
  rw [List.getD_eq_getElem?_getD, List.getElem?_map, List.getElem?_range h]; rfl
theorem num_split (p q : Nat → Bool) : ∀ n, num (fun i => p i && (q i == false)) n + num (fun i => p i && (q i == true)) n = num p n
  | 0 => rfl
  | n + 1 => by
    have := num_split p q n
    have key : ∀ (x y : Bool) (m : Nat), (if (x && (y == false)) = true then m else 0) + (if (x && (y == true)) = true then m else 0) = if x = true then m else 0 := by
      intro x y m; cases x <;> cases y <;> simp
    have := key (p n) (q n) (2 ^ n)
    simp only [num]
    omega
theorem num_pos {p : Nat → Bool} : ∀ {n : Nat}, (lst p n).length ≠ 0 → 0 < num p n
  | 0, h => by simp [lst] at h
  | n + 1, h => by
    rw [lst_succ] at h
    simp only [num]
    by_cases hp : p n = true
    · rw [if_pos hp]; have := Nat.two_pow_pos n; omega
    · rw [if_neg hp] at h ⊢
      simp only [List.append_nil] at h
      have := num_pos h; omega
/-- The two sides of the n-th set, their numbers. -/
theorem mem8_side (W : List Int) (n : Nat) (hn : n < 256) (k : Int) : ∃ a b : Nat, a + b = n ∧ mem8 (a : Nat) = side W (mem8 n) k false ∧ mem8 (b : Nat) = side W (mem8 n) k true ∧ bitsN (side W (mem8 n) k false) = a ∧ bitsN (side W (mem8 n) k true) = b ∧
    ((side W (mem8 n) k false).length ≠ 0 → 0 < a) ∧ ((side W (mem8 n) k true).length ≠ 0 → 0 < b) := by
  rw [mem8_eq n (by omega), side_lst, side_lst]
  refine ⟨num (fun i => n.testBit i && (tb (W.getD i 0) k == false)) 8, num (fun i => n.testBit i && (tb (W.getD i 0) k == true)) 8, ?_, mem8_num _ 8 (Nat.le_refl _), mem8_num _ 8 (Nat.le_refl _), bits_lst _ _, bits_lst _ _, num_pos, num_pos⟩
  rw [num_split]
  apply Nat.eq_of_testBit_eq
  intro i
  rw [num_bit]
  by_cases hi : i < 8
  · simp [hi]
  · have h8 : 2 ^ 8 ≤ 2 ^ i := Nat.pow_le_pow_right (by omega) (by omega)
    rw [Nat.testBit_lt_two_pow (by omega)]; simp [hi]
theorem mem8_in {W : List Int} {n : Nat} (hw : W.length ≤ 8) (hn : n < 2 ^ W.length) : ∀ i ∈ mem8 n, 0 ≤ i ∧ i < W.length := by
  have hle : 2 ^ W.length ≤ 2 ^ 8 := Nat.pow_le_pow_right (by omega) hw
  rw [mem8_eq n (by omega)]
  intro i hi
  obtain ⟨j, rfl, h1, h2⟩ := lst_mem.1 hi
  refine ⟨by omega, ?_⟩
  by_cases hj : j < W.length
  · omega
  · have : 2 ^ W.length ≤ 2 ^ j := Nat.pow_le_pow_right (by omega) (by omega)
    rw [Nat.testBit_lt_two_pow (by omega)] at h2; cases h2
theorem mem8_nodup (n : Nat) (hn : n < 256) : (mem8 n).Nodup := by rw [mem8_eq n (by omega)]; exact lst_nodup _ _
theorem mem8_length (n : Nat) (hn : n < 256) : (mem8 n).length ≤ 8 := by rw [mem8_eq n (by omega)]; exact lst_len _ _

def leastK (W C s : List Int) (k : Nat) : Int := max 0 (stepK W C (best W C) s k).2
/-- How the least cost turns at a question. -/
theorem leastK_step (W C s : List Int) (hc : CostOk C) (ha : Apart W C s) (k : Nat) (hk : k < C.length) :
    (¬ okK W s k → leastK W C s (k + 1) = leastK W C s k) ∧
    (okK W s k → 0 < (side W s k false).length ∧ 0 < (side W s k true).length ∧ cK W C (best W C) s k = C.getD k 0 + max (cst1 W C (side W s k false)) (cst1 W C (side W s k true)) ∧ 1 ≤ cK W C (best W C) s k ∧ cK W C (best W C) s k ≤ 1024 * s.length ∧
      leastK W C s (k + 1) = if leastK W C s k = 0 ∨ cK W C (best W C) s k < leastK W C s k then cK W C (best W C) s k else leastK W C s k) := by
  have sub : ∀ j, j < C.length → okK W s j → 0 < (side W s j false).length ∧ 0 < (side W s j true).length ∧ cK W C (best W C) s j = C.getD j 0 + max (cst1 W C (side W s j false)) (cst1 W C (side W s j true)) ∧ 1 ≤ cK W C (best W C) s j ∧ cK W C (best W C) s j ≤ 1024 * s.length := fun j hj ho => by
    have hsl := side_length W s j
    obtain ⟨o1, o2⟩ := ho
    have b1 := best_bound W C hc _ (side W s j false) rfl (by omega) (ha.side j false)
    have b2 := best_bound W C hc _ (side W s j true) rfl (by omega) (ha.side j true)
    have := hc.at hj
    unfold cK cst1
    omega
  refine ⟨fun ho => ?_, fun ho => ?_⟩
  · unfold leastK
    simp only [stepK]
    rw [if_pos (by unfold okK at ho; omega)]
  · obtain ⟨a1, a2, a3, a4, a5⟩ := sub k hk ho
    refine ⟨a1, a2, a3, a4, a5, ?_⟩
    have hst : stepK W C (best W C) s (k + 1) = if (stepK W C (best W C) s k).2 < 0 ∨ cK W C (best W C) s k < (stepK W C (best W C) s k).2 then (.node k (best W C (side W s k false)).1 (best W C (side W s k true)).1 (-1), cK W C (best W C) s k) else stepK W C (best W C) s k := by
      simp only [stepK]
      rw [if_neg (by unfold okK at ho; omega)]; rfl
    unfold leastK
    rw [hst]
    rcases stepK_spec W C (best W C) s k fun j hj hjo => by have := sub j (by omega) hjo; omega with ⟨_, h2⟩ | ⟨j, h2, h3, h4, _⟩
    · rw [h2, if_pos (.inl (by simp)), if_pos (.inl (by show max (0 : Int) (-1) = 0; rfl))]; simp only; omega
    · have := sub j (by omega) h3
      rw [h4]
      simp only
      by_cases hlt : cK W C (best W C) s k < cK W C (best W C) s j
      · rw [if_pos (.inr hlt), if_pos (.inr (by omega))]; simp only; omega
      · rw [if_neg (by omega), if_neg (by omega)]
theorem cst1_least (W C s : List Int) : cst1 W C s = if s.length ≤ 1 then 0 else leastK W C s C.length := by
  unfold cst1 leastK
  rw [best_eq]
  by_cases h1 : s.length = 1
  · rw [if_pos h1, if_pos (by omega)]; rfl
  · rw [if_neg h1]
    by_cases h0 : s.length = 0
    · rw [if_pos h0, if_pos (by omega)]; rfl
    · rw [if_neg h0, if_neg (by omega)]
theorem leastK_one (W C s : List Int) (h : s.length ≤ 1) : ∀ k, leastK W C s k = 0
  | 0 => rfl
  | k + 1 => by
    have := leastK_one W C s h k
    have hsl := side_length W s k
    unfold leastK at this ⊢
    simp only [stepK]
    rw [if_pos (by omega)]; exact this
theorem cst1_least' (W C s : List Int) : cst1 W C s = leastK W C s C.length := by
  rw [cst1_least]
  split
  · rw [leastK_one _ _ _ (by assumption)]
  · rfl
end
end Go.Ab.Q
