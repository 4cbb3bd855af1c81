/- Contracts of functions of this chapter, for every argument that fits, and what they need. -/
import Derived.Test.YtfjcglohkajbhaaQ15
set_option linter.unusedSimpArgs false
set_option linter.unusedVariables false
namespace Go.Ab.Q
open Go Go.RowKit Go.Proofs
noncomputable section
set_option maxRecDepth 10000
set_option maxHeartbeats 1000000
set_option linter.unusedSimpArgs false
open Classical

/-! ### The best tree of some worlds -/
def stepK (W C : List Int) (f : List Int → Tr × Int) (s : List Int) : Nat → Tr × Int
  | 0 => (.nil, -1)
  | k + 1 => if (side W s k false).length = 0 ∨ (side W s k true).length = 0 then stepK W C f s k else
    if (stepK W C f s k).2 < 0 ∨ C.getD k 0 + max (f (side W s k false)).2 (f (side W s k true)).2 < (stepK W C f s k).2
    then (.node k (f (side W s k false)).1 (f (side W s k true)).1 (-1), C.getD k 0 + max (f (side W s k false)).2 (f (side W s k true)).2)
    else stepK W C f s k
def bst (W C : List Int) : Nat → List Int → Tr × Int
  | 0, _ => (.nil, -1)
  | f + 1, s => if s.length = 1 then (.node (-1) .nil .nil (s.getD 0 0), 0) else if s.length = 0 then (.nil, -1) else stepK W C (bst W C f) s C.length

theorem stepK_congr (W C : List Int) (f g : List Int → Tr × Int) (s : List Int) : ∀ k, (∀ j b, (side W s j b).length < s.length → f (side W s j b) = g (side W s j b)) → stepK W C f s k = stepK W C g s k
  | 0, _ => rfl
  | k + 1, h => by
    have ih := stepK_congr W C f g s k h
    simp only [stepK]
    rw [ih]
    by_cases hz : (side W s k false).length = 0 ∨ (side W s k true).length = 0
    · rw [if_pos hz, if_pos hz]
    · rw [if_neg hz, if_neg hz]
      have hsl := side_length W s k
      rw [h k false (by omega), h k true (by omega)]
theorem bst_enough (W C : List Int) : ∀ (f g : Nat) (s : List Int), s.length ≤ f → s.length ≤ g → bst W C f s = bst W C g s
  | 0, 0, _, _, _ => rfl
  | 0, g + 1, s, h, _ => by
    have : s.length = 0 := by omega
    simp [bst, this]
  | f + 1, 0, s, _, h => by
    have : s.length = 0 := by omega
    simp [bst, this]
  | f + 1, g + 1, s, h1, h2 => by
    simp only [bst]
    split
    · rfl
    · split
      · rfl
      · exact stepK_congr W C _ _ s _ fun j b hl => bst_enough W C f g _ (by omega) (by omega)
def best (W C : List Int) (s : List Int) : Tr × Int := bst W C s.length s
theorem best_eq (W C s : List Int) : best W C s = if s.length = 1 then (.node (-1) .nil .nil (s.getD 0 0), 0) else if s.length = 0 then (.nil, -1) else stepK W C (best W C) s C.length := by
  unfold best
  cases h : s.length with
  | zero => simp [bst]
  | succ n =>
    simp only [bst, h]
    split
    · rfl
    · rw [if_neg (by omega), if_neg (by omega)]
      exact stepK_congr W C _ _ s _ fun j b hl => bst_enough W C _ _ _ (by omega) (Nat.le_refl _)

/-- The worlds of some indices are told apart by the questions. -/
def Apart (W C : List Int) (s : List Int) : Prop := s.Nodup ∧ ∀ i ∈ s, ∀ j ∈ s, i ≠ j → ∃ k : Nat, k < C.length ∧ tb (W.getD i.toNat 0) k ≠ tb (W.getD j.toNat 0) k
theorem side_nodup {W s : List Int} {k : Int} {b : Bool} (h : s.Nodup) : (side W s k b).Nodup := List.Nodup.sublist List.filter_sublist h
theorem Apart.side {W C s : List Int} (h : Apart W C s) (k : Int) (b : Bool) : Apart W C (side W s k b) :=
  ⟨side_nodup h.1, fun i hi j hj hne => h.2 i (side_mem hi) j (side_mem hj) hne⟩
theorem Apart.split {W C s : List Int} (h : Apart W C s) (hl : 2 ≤ s.length) : ∃ k : Nat, k < C.length ∧ (Q.side W s k false).length ≠ 0 ∧ (Q.side W s k true).length ≠ 0 := by
  match s, hl, h with
  | i :: j :: r, _, h =>
    have hne : i ≠ j := fun e => by have := h.1; rw [List.nodup_cons] at this; exact this.1 (by simp [e])
    obtain ⟨k, hk, hd⟩ := h.2 i (by simp) j (by simp) hne
    refine ⟨k, hk, ?_⟩
    have hm : ∀ x ∈ (i :: j :: r), x ∈ Q.side W (i :: j :: r) k (tb (W.getD x.toNat 0) k) := fun x hx => by
      unfold Q.side; rw [List.mem_filter]; exact ⟨hx, by simp⟩
    have h1 := hm i (by simp)
    have h2 := hm j (by simp)
    have nz : ∀ (l : List Int) (x : Int), x ∈ l → l.length ≠ 0 := fun l x hx h0 => by
      rw [List.length_eq_zero_iff.1 h0] at hx; cases hx
    cases e1 : tb (W.getD i.toNat 0) k <;> cases e2 : tb (W.getD j.toNat 0) k
    · rw [e1, e2] at hd; exact absurd rfl hd
    · rw [e1] at h1; rw [e2] at h2; exact ⟨nz _ _ h1, nz _ _ h2⟩
    · rw [e1] at h1; rw [e2] at h2; exact ⟨nz _ _ h2, nz _ _ h1⟩
    · rw [e1, e2] at hd; exact absurd rfl hd

/-- What the best step is. -/
def cK (W C : List Int) (f : List Int → Tr × Int) (s : List Int) (k : Nat) : Int := C.getD k 0 + max (f (side W s k false)).2 (f (side W s k true)).2
def okK (W : List Int) (s : List Int) (k : Nat) : Prop := (side W s k false).length ≠ 0 ∧ (side W s k true).length ≠ 0
theorem stepK_spec (W C : List Int) (f : List Int → Tr × Int) (s : List Int) : ∀ n, (∀ k, k < n → okK W s k → 0 ≤ cK W C f s k) →
    ((∀ k, k < n → ¬ okK W s k) ∧ stepK W C f s n = (.nil, -1)) ∨
    ∃ k, k < n ∧ okK W s k ∧ stepK W C f s n = (.node k (f (side W s k false)).1 (f (side W s k true)).1 (-1), cK W C f s k) ∧ (∀ j, j < k → okK W s j → cK W C f s k < cK W C f s j) ∧ (∀ j, j < n → okK W s j → cK W C f s k ≤ cK W C f s j)
  | 0, _ => .inl ⟨fun k hk => by omega, rfl⟩
  | n + 1, hpos => by
    have ih := stepK_spec W C f s n fun k hk => hpos k (by omega)
    by_cases hok : okK W s n
    · have hp := hpos n (by omega) hok
      have e : stepK W C f s (n + 1) = if (stepK W C f s n).2 < 0 ∨ cK W C f s n < (stepK W C f s n).2 then (.node n (f (side W s n false)).1 (f (side W s n true)).1 (-1), cK W C f s n) else stepK W C f s n := by
        simp only [stepK]
        rw [if_neg (by unfold okK at hok; omega)]
        rfl
      right
      rcases ih with ⟨h1, h2⟩ | ⟨k, h1, h2, h3, h4, h5⟩
      · refine ⟨n, by omega, hok, ?_, fun j hj hjo => absurd hjo (h1 j hj), fun j hj hjo => ?_⟩
        · rw [e, h2, if_pos (.inl (by simp))]
        · by_cases hjn : j = n
          · rw [hjn]; exact Int.le_refl _
          · exact absurd hjo (h1 j (by omega))
      · have hk0 := hpos k (by omega) h2
        by_cases hlt : cK W C f s n < cK W C f s k
        · refine ⟨n, by omega, hok, ?_, fun j hj hjo => ?_, fun j hj hjo => ?_⟩
          · rw [e, h3, if_pos (.inr hlt)]
          · have := h5 j hj hjo; omega
          · by_cases hjn : j = n
            · rw [hjn]; exact Int.le_refl _
            · have := h5 j (by omega) hjo; omega
        · refine ⟨k, by omega, h2, ?_, h4, fun j hj hjo => ?_⟩
          · rw [e, h3, if_neg (by simp only; omega)]
          · by_cases hjn : j = n
            · rw [hjn]; omega
            · exact h5 j (by omega) hjo
    · have e : stepK W C f s (n + 1) = stepK W C f s n := by
        simp only [stepK]
        rw [if_pos (by unfold okK at hok; omega)]
      rcases ih with ⟨h1, h2⟩ | ⟨k, h1, h2, h3, h4, h5⟩
      · refine .inl ⟨fun k hk => ?_, by rw [e]; exact h2⟩
        by_cases hkn : k = n
        · rw [hkn]; exact hok
        · exact h1 k (by omega)
      · refine .inr ⟨k, by omega, h2, by rw [e]; exact h3, h4, fun j hj hjo => ?_⟩
        by_cases hjn : j = n
        · rw [hjn] at hjo; exact absurd hjo hok
        · exact h5 j (by omega) hjo

/-- The costs are between 1 and 1024. -/
def CostOk (C : List Int) : Prop := ¬ anyBad C
theorem CostOk.at {C : List Int} (h : CostOk C) {k : Nat} (hk : k < C.length) : 1 ≤ C.getD k 0 ∧ C.getD k 0 ≤ 1024 := by
  have : ¬ (C.getD k 0 < 1 ∨ 1024 < C.getD k 0) := fun hb => h (anyBad_mem k hk hb)
  omega
theorem best_bound (W C : List Int) (hc : CostOk C) : ∀ (n : Nat) (s : List Int), s.length = n → 0 < n → Apart W C s → 0 ≤ (best W C s).2 ∧ (best W C s).2 ≤ 1024 * ((n : Int) - 1) ∧ (2 ≤ n → 1 ≤ (best W C s).2) := by
  intro n
  induction n using Nat.strongRecOn with
  | _ n ih =>
    intro s hs h0 ha
    rw [best_eq]
    by_cases h1 : s.length = 1
    · rw [if_pos h1]; simp only; omega
    rw [if_neg h1, if_neg (by omega)]
    have sub : ∀ k, k < C.length → okK W s k → 1 ≤ cK W C (best W C) s k ∧ cK W C (best W C) s k ≤ 1024 * ((n : Int) - 1) := fun k hk ho => by
      have hsl := side_length W s k
      obtain ⟨o1, o2⟩ := ho
      have b1 := ih _ (by omega) (side W s k false) rfl (by omega) (ha.side k false)
      have b2 := ih _ (by omega) (side W s k true) rfl (by omega) (ha.side k true)
      have := hc.at hk
      unfold cK
      omega
    rcases stepK_spec W C (best W C) s C.length fun k hk ho => by have := sub k hk ho; omega with ⟨h2, _⟩ | ⟨k, h2, h3, h4, _⟩
    · obtain ⟨k, hk, ho⟩ := ha.split (by omega)
      exact absurd ho (h2 k hk)
    · rw [h4]
      have := sub k h2 h3
      simp only
      omega
end
end Go.Ab.Q
