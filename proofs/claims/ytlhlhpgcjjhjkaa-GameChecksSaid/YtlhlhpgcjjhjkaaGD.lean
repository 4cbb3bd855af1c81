/- Contracts of functions of this chapter, for every argument that fits, and what they need. -/
import Derived.Test.YtlhlhpgcjjhjkaaG20
set_option linter.unusedSimpArgs false
set_option linter.unusedVariables false
namespace Go.Ab.G
open Go Go.RowKit
open Classical
noncomputable section
set_option linter.unusedSimpArgs false
set_option linter.unusedVariables false

/-! ### What the certificates say -/
/-- A node that the ranks of a certificate give r is won in r + 1 rounds. -/
theorem cert_round {g : Gm} (hv : restG g) {R C : List Int} (h : ∀ k, k < g.n → nodeC g R C k) : ∀ (r : Nat) (q : Nat), q < g.n → 0 ≤ R.getD q 0 → R.getD q 0 < r → 0 ≤ F g r q
  | 0, q, _, h1, h2 => by omega
  | r + 1, q, hq, h1, h2 => by
    rw [F_win]
    have ih : ∀ m ∈ nx g q, below R q m = true → 0 ≤ F g r m.toNat := fun m hm hb => by
      have hin := nx_in hv hq hm
      simp only [below, Bool.and_eq_true, decide_eq_true_eq] at hb
      exact cert_round hv h r m.toNat (by omega) hb.1 (by omega)
    rcases h q hq with hn | hg | ⟨hb, ⟨o0, hc, hbl⟩ | ⟨o1, hne, hall⟩⟩
    · omega
    · exact .inl hg
    · exact .inr ⟨hb, .inl ⟨o0, _, hc, ih _ hc hbl⟩⟩
    · exact .inr ⟨hb, .inr ⟨o1, hne, fun m hm => ih m hm (hall m hm)⟩⟩
/-- (Least.) -/
theorem cert_least {g : Gm} (hv : restG g) {R C : List Int} (h : ∀ k, k < g.n → nodeC g R C k) {q : Nat} (hq : q < g.n) (h0 : 0 ≤ R.getD q 0) : 0 ≤ rk g q ∧ rk g q ≤ R.getD q 0 := by
  have h1 := cert_round hv h (R.getD q 0 + 1).toNat q hq h0 (by omega)
  have h2 := F_range g (R.getD q 0 + 1).toNat q
  by_cases hs : (R.getD q 0 + 1).toNat ≤ g.n
  · have := F_keep g h1 g.n hs
    unfold rk; rw [this]; omega
  · have := F_rest hv (R.getD q 0 + 1).toNat (by omega) q hq
    have hr := rk_range g q
    have e : rk g q = F g (R.getD q 0 + 1).toNat q := this.symm
    omega
/-- What the faults' certificate says. -/
theorem trap_round {g : Gm} (hv : restG g) {W D : List Int} (h : ∀ k, k < g.n → nodeW g W D k) : ∀ (r : Nat) (q : Nat), q < g.n → W.getD q 0 = 1 → F g r q < 0
  | 0, q, _, _ => by simp [F]
  | r + 1, q, hq, h1 => by
    refine Int.not_le.1 fun hc => ?_
    rw [F_win] at hc
    have ih : ∀ m ∈ nx g q, isW W m = true → ¬ 0 ≤ F g r m.toNat := fun m hm hb => by
      have hin := nx_in hv hq hm
      simp only [isW, decide_eq_true_eq] at hb
      have := trap_round hv h r m.toNat (by omega) hb
      omega
    have hno := (hv.2.2.2 q hq).2.2
    rcases h q hq with hn | hb | ⟨hg, ho⟩
    · exact hn h1
    · rcases hc with hc | ⟨hc, _⟩
      · exact hno ⟨hc, hb⟩
      · exact hc hb
    · rcases hc with hc | ⟨hc, ⟨o0, m, hm, hw⟩ | ⟨o1, hne, hall⟩⟩
      · exact hg hc
      · rcases ho with ⟨_, ha⟩ | ⟨o1, _⟩
        · exact ih m hm (ha m hm) hw
        · omega
      · rcases ho with ⟨o0, _⟩ | ⟨_, ha⟩
        · omega
        · rcases ha with ha | ⟨ha1, ha2⟩
          · exact hne ha
          · exact ih _ ha1 ha2 (hall _ ha1)
theorem check_zero {g : Gm} (hv : validF g = 0) {fr : Int} {R C : List Int} : checkG g fr R C = 0 ↔ fitC g fr R C ∧ ∀ k, k < g.n → nodeC g R C k := by
  unfold checkG
  rw [if_neg (by rw [hv]; simp)]
  by_cases h : fitC g fr R C ∧ ∀ k, k < g.n → nodeC g R C k
  · rw [if_pos h]; exact ⟨fun _ => h, fun _ => rfl⟩
  · rw [if_neg h]; exact ⟨fun e => by simp at e, fun e => absurd e h⟩
theorem checkw_zero {g : Gm} (hv : validF g = 0) {fr : Int} {R C : List Int} : checkW g fr R C = 0 ↔ fitW g fr R C ∧ ∀ k, k < g.n → nodeW g R C k := by
  unfold checkW
  rw [if_neg (by rw [hv]; simp)]
  by_cases h : fitW g fr R C ∧ ∀ k, k < g.n → nodeW g R C k
  · rw [if_pos h]; exact ⟨fun _ => h, fun _ => rfl⟩
  · rw [if_neg h]; exact ⟨fun e => by simp at e, fun e => absurd e h⟩
/-- Not both. -/
theorem not_both {g : Gm} (hv : validF g = 0) {k : Nat} (hk : k < g.n) {R C W D : List Int} (h1 : checkG g k R C = 0) (h2 : checkW g k W D = 0) : False := by
  obtain ⟨hsz, hrest⟩ := valid_ok hv
  obtain ⟨f1, n1⟩ := (check_zero hv).1 h1
  obtain ⟨f2, n2⟩ := (checkw_zero hv).1 h2
  have a := (cert_least hrest n1 hk (by have := f1.2.2.2.2; simpa using this)).1
  have b := trap_round hrest n2 g.n k hk (by have := f2.2.2.2.2; simpa using this)
  have : rk g k = F g g.n k := rfl
  omega
theorem find_some_of_any {p : Int → Bool} {s : List Int} (h : s.any p = true) : ∃ m, s.find? p = some m ∧ m ∈ s ∧ p m = true := by
  cases hf : s.find? p with
  | none =>
    obtain ⟨m, hm, hp⟩ := List.any_eq_true.1 h
    exact absurd hp (by have := List.find?_eq_none.1 hf m hm; simpa using this)
  | some m => exact ⟨m, rfl, List.mem_of_find?_eq_some hf, List.find?_some hf⟩
theorem solve_nodes {g : Gm} (hv : validF g = 0) : ∀ k, k < g.n → nodeC g (tab (rk g) g.n) (tab (choF g) g.n) k := by
  obtain ⟨hsz, hrest⟩ := valid_ok hv
  intro k hk
  have eR : ∀ q, q < g.n → (tab (rk g) g.n).getD q 0 = rk g q := fun q hq => tab_at _ _ _ hq
  have eC : (tab (choF g) g.n).getD k 0 = choF g k := tab_at _ _ _ hk
  unfold nodeC okK
  rw [eR k hk, eC]
  by_cases h0 : rk g k < 0
  · exact .inl h0
  by_cases hg : (k : Int) ∈ g.goal
  · exact .inr (.inl hg)
  refine .inr (.inr ?_)
  obtain ⟨i, hi⟩ : ∃ i : Nat, rk g k = i := ⟨(rk g k).toNat, by omega⟩
  obtain ⟨w1, w2⟩ := rk_spec hrest hi
  have hb : ∀ m ∈ nx g k, (0 ≤ rk g m.toNat ∧ rk g m.toNat < i) → below (tab (rk g) g.n) k m = true := fun m hm h => by
    have hin := nx_in hrest hk hm
    unfold below
    rw [eR k hk, eR m.toNat (by omega), hi]
    simp [h.1, h.2]
  rcases w1 with w1 | ⟨hbad, ⟨o0, m, hm, hw⟩ | ⟨o1, hne, hall⟩⟩
  · exact absurd w1 hg
  · refine ⟨hbad, .inl ⟨o0, ?_⟩⟩
    have hpos : 0 < rk g k := by omega
    obtain ⟨c, hc1, hc2, hc3⟩ := find_some_of_any (cho_any hrest hsz hpos o0)
    have e : choF g k = c := by unfold choF; rw [if_pos ⟨hpos, o0⟩, hc1]; rfl
    rw [e]
    simp only [decide_eq_true_eq] at hc3
    exact ⟨hc2, hb c hc2 (by omega)⟩
  · exact ⟨hbad, .inr ⟨o1, hne, fun m hm => hb m hm (hall m hm)⟩⟩
theorem counter_nodes {g : Gm} (hv : validF g = 0) : ∀ k, k < g.n → nodeW g (tab (winF g) g.n) (tab (ctrF g) g.n) k := by
  obtain ⟨hsz, hrest⟩ := valid_ok hv
  intro k hk
  have eW : ∀ q, q < g.n → (tab (winF g) g.n).getD q 0 = winF g q := fun q hq => tab_at _ _ _ hq
  have eD : (tab (ctrF g) g.n).getD k 0 = ctrF g k := tab_at _ _ _ hk
  unfold nodeW okW
  rw [eW k hk, eD]
  by_cases h0 : rk g k < 0
  · by_cases hb : (k : Int) ∈ g.bad
    · exact .inr (.inl hb)
    refine .inr (.inr ?_)
    have hnw : ¬ win g (fun m => 0 ≤ rk g m) k := fun hw => by have := (rk_win hrest hk).2 hw; omega
    have hisW : ∀ m ∈ nx g k, rk g m.toNat < 0 → isW (tab (winF g) g.n) m = true := fun m hm h => by
      have hin := nx_in hrest hk hm
      unfold isW winF
      rw [tab_at _ _ _ (by omega), if_pos h]; rfl
    refine ⟨fun hg => hnw (.inl hg), ?_⟩
    rcases (hrest.2.2.2 k hk).1 with o0 | o1
    · refine .inl ⟨o0, fun m hm => hisW m hm ?_⟩
      exact Int.not_le.1 fun hc => hnw (.inr ⟨hb, .inl ⟨o0, m, hm, hc⟩⟩)
    · refine .inr ⟨o1, ?_⟩
      by_cases hne : nx g k = []
      · exact .inl hne
      · right
        have hex : ∃ m ∈ nx g k, rk g m.toNat < 0 := Classical.byContradiction fun hno => hnw (.inr ⟨hb, .inr ⟨o1, hne, fun m hm => Int.not_lt.1 fun hc => hno ⟨m, hm, hc⟩⟩⟩)
        obtain ⟨m, hm, hlt⟩ := hex
        obtain ⟨c, hc1, hc2, hc3⟩ := find_some_of_any (p := fun m => decide (rk g m.toNat < 0)) (List.any_eq_true.2 ⟨m, hm, by simpa using hlt⟩)
        have e : ctrF g k = c := by unfold ctrF; rw [if_pos ⟨h0, o1, hb⟩, hc1]; rfl
        rw [e]
        simp only [decide_eq_true_eq] at hc3
        exact ⟨hc2, hisW c hc2 hc3⟩
  · exact .inl (by unfold winF; rw [if_neg h0]; simp)
theorem solve_check {g : Gm} (hv : validF g = 0) {k : Nat} (hk : k < g.n) : checkG g k (tab (rk g) g.n) (tab (choF g) g.n) = 0 ↔ 0 ≤ rk g k := by
  rw [check_zero hv]
  have e : (tab (rk g) g.n).getD ((k : Int)).toNat 0 = rk g k := tab_at _ _ _ hk
  constructor
  · rintro ⟨h, _⟩
    have := h.2.2.2.2
    rwa [e] at this
  · intro h
    exact ⟨⟨tab_len _ _, tab_len _ _, by omega, by omega, by rw [e]; exact h⟩, solve_nodes hv⟩
theorem counter_check {g : Gm} (hv : validF g = 0) {k : Nat} (hk : k < g.n) : checkW g k (tab (winF g) g.n) (tab (ctrF g) g.n) = 0 ↔ rk g k < 0 := by
  rw [checkw_zero hv]
  have e : (tab (winF g) g.n).getD ((k : Int)).toNat 0 = winF g k := tab_at _ _ _ hk
  constructor
  · rintro ⟨h, _⟩
    have := h.2.2.2.2
    rw [e] at this
    unfold winF at this
    by_cases h0 : rk g k < 0
    · exact h0
    · rw [if_neg h0] at this; cases this
  · intro h
    exact ⟨⟨tab_len _ _, tab_len _ _, by omega, by omega, by rw [e]; unfold winF; rw [if_pos h]⟩, counter_nodes hv⟩

/-! ### Plays -/
theorem pick_mem {l : List Int} (h : l ≠ []) (made : Nat) (faults : List Int) : pickF l made faults ∈ l := by
  unfold pickF
  have hl : 0 < l.length := List.length_pos_iff.2 h
  refine getD_mem ?_
  split
  · have := tmod_range hl (faults.getD made 0)
    omega
  · simpa using hl
/-- (Won.) -/
theorem play_won {g : Gm} (hv : restG g) {R C : List Int} (h : ∀ k, k < g.n → nodeC g R C k) (faults : List Int) : ∀ (f k made : Nat), k < g.n → 0 ≤ R.getD k 0 → R.getD k 0 ≤ f →
    ((playF g C faults f k made).length : Int) ≤ R.getD k 0 ∧ (∀ x ∈ (k : Int) :: playF g C faults f k made, x ∉ g.bad) ∧ ((k : Int) :: playF g C faults f k made).getD (playF g C faults f k made).length 0 ∈ g.goal := by
  intro f
  induction f with
  | zero =>
    intro k made hk h0 h1
    have hno := (hv.2.2.2 k hk).2.2
    have hg : (k : Int) ∈ g.goal := by
      rcases h k hk with hn | hg | ⟨hb, ⟨o0, hc, hbl⟩ | ⟨o1, hne, hall⟩⟩
      · omega
      · exact hg
      · simp only [below, Bool.and_eq_true, decide_eq_true_eq] at hbl; omega
      · have := hall _ (List.head_mem hne)
        simp only [below, Bool.and_eq_true, decide_eq_true_eq] at this; omega
    refine ⟨by simpa [playF] using h0, fun x hx => ?_, by simpa [playF] using hg⟩
    simp [playF] at hx
    rw [hx]; exact fun hb => hno ⟨hg, hb⟩
  | succ f ih =>
    intro k made hk h0 h1
    have hno := (hv.2.2.2 k hk).2.2
    by_cases hg : (k : Int) ∈ g.goal
    · have e : playF g C faults (f + 1) k made = [] := play_stop _ _ _ _ _ _ fun hc => hc.1.1 hg
      rw [e]
      refine ⟨by simpa using h0, fun x hx => ?_, by simpa using hg⟩
      simp at hx
      rw [hx]; exact fun hb => hno ⟨hg, hb⟩
    · obtain ⟨hb, hne, hm, hbl⟩ : (k : Int) ∉ g.bad ∧ nx g k ≠ [] ∧ moveF g C faults k made ∈ nx g k ∧ below R k (moveF g C faults k made) = true := by
        rcases h k hk with hn | hg' | ⟨hb, ⟨o0, hc, hbl⟩ | ⟨o1, hne, hall⟩⟩
        · omega
        · exact absurd hg' hg
        · have e : moveF g C faults k made = C.getD k 0 := if_neg (by omega)
          rw [e]
          exact ⟨hb, (fun e => by rw [e] at hc; cases hc), hc, hbl⟩
        · have e : moveF g C faults k made = pickF (nx g k) made faults := if_pos o1
          rw [e]
          exact ⟨hb, hne, pick_mem hne _ _, hall _ (pick_mem hne _ _)⟩
      have hin := nx_in hv hk hm
      simp only [below, Bool.and_eq_true, decide_eq_true_eq] at hbl
      obtain ⟨i1, i2, i3⟩ := ih (moveF g C faults k made).toNat (made + 1) (by omega) hbl.1 (by omega)
      rw [Int.toNat_of_nonneg hin.1] at i2 i3
      rw [playF, if_pos ⟨⟨hg, hb, hne⟩, hm⟩]
      refine ⟨by simp only [List.length_cons]; omega, fun x hx => ?_, ?_⟩
      · rcases List.mem_cons.1 hx with rfl | hx
        · exact hb
        · exact i2 x hx
      · simpa using i3
end
end Go.Ab.G
