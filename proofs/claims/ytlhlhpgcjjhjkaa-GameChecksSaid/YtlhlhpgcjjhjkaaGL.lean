/- Contracts of functions of this chapter, for every argument that fits, and what they need. -/
import Derived.Test.YtlhlhpgcjjhjkaaG12
import Derived.Test.YtlhlhpgcjjhjkaaG13
import Derived.Test.YtlhlhpgcjjhjkaaG14
import Derived.Test.YtlhlhpgcjjhjkaaG15
import Derived.Test.YtlhlhpgcjjhjkaaG16
import Derived.Test.YtlhlhpgcjjhjkaaG8
import Derived.Test.YtlhlhpgcjjhjkaaG10
set_option linter.unusedSimpArgs false
set_option linter.unusedVariables false
namespace Go.Ab.G
open Go Go.RowKit Go.Proofs
noncomputable section
set_option maxRecDepth 10000
set_option maxHeartbeats 2000000
set_option linter.unusedSimpArgs false
set_option linter.unusedVariables false
open Classical

/-! ### The values of the document's game -/
def winB (g : Gm) (R : List Int) (k : Nat) : Bool :=
  g.goal.contains (k : Int) || (!g.bad.contains (k : Int) && ((ow g k == 0 && (nx g k).any fun m => decide (0 ≤ R.getD m.toNat 0)) || (ow g k == 1 && !(nx g k).isEmpty && (nx g k).all fun m => decide (0 ≤ R.getD m.toNat 0))))
def stepL (g : Gm) (r : Nat) (R : List Int) : List Int := (List.range g.n).map fun k => if 0 ≤ R.getD k 0 then R.getD k 0 else if winB g R k = true then (r : Int) else -1
theorem winB_iff {g : Gm} (hv : restG g) (r : Nat) {k : Nat} (hk : k < g.n) : winB g (tab (F g r) g.n) k = true ↔ win g (fun m => 0 ≤ F g r m) k := by
  have e : ∀ m ∈ nx g k, (tab (F g r) g.n).getD m.toNat 0 = F g r m.toNat := fun m hm => tab_at _ _ _ (by have := nx_in hv hk hm; omega)
  have e1 : ((nx g k).any fun m => decide (0 ≤ (tab (F g r) g.n).getD m.toNat 0)) = true ↔ ∃ m ∈ nx g k, 0 ≤ F g r m.toNat := by
    rw [List.any_eq_true]
    constructor
    · rintro ⟨m, hm, h⟩; rw [e m hm] at h; exact ⟨m, hm, by simpa using h⟩
    · rintro ⟨m, hm, h⟩; exact ⟨m, hm, by rw [e m hm]; simpa using h⟩
  have e2 : ((nx g k).all fun m => decide (0 ≤ (tab (F g r) g.n).getD m.toNat 0)) = true ↔ ∀ m ∈ nx g k, 0 ≤ F g r m.toNat := by
    rw [List.all_eq_true]
    constructor
    · intro h m hm; have := h m hm; rw [e m hm] at this; simpa using this
    · intro h m hm; rw [e m hm]; simpa using h m hm
  unfold winB win
  simp only [Bool.or_eq_true, Bool.and_eq_true, Bool.not_eq_true', beq_iff_eq, e1, e2, List.contains_iff_mem]
  have c : (g.bad.contains (k : Int) = false) ↔ (k : Int) ∉ g.bad := by rw [← List.contains_iff_mem]; simp
  have d : ((nx g k).isEmpty = false) ↔ nx g k ≠ [] := by cases nx g k <;> simp
  rw [c, d, and_assoc]
theorem tab_step {g : Gm} (hv : restG g) (r : Nat) : tab (F g (r + 1)) g.n = stepL g r (tab (F g r) g.n) := by
  unfold stepL
  refine List.map_congr_left fun k hk => ?_
  have hk' : k < g.n := by simpa using hk
  simp only [F]
  rw [tab_at _ _ _ hk']
  by_cases h0 : 0 ≤ F g r k
  · rw [if_pos h0, if_pos h0]
  · rw [if_neg h0, if_neg h0]
    by_cases hw : win g (fun m => 0 ≤ F g r m) k
    · rw [if_pos hw, if_pos ((winB_iff hv r hk').2 hw)]
    · rw [if_neg hw, if_neg fun h => hw ((winB_iff hv r hk').1 h)]
def stepsL (g : Gm) : Nat → List Int
  | 0 => (List.range g.n).map fun _ => -1
  | r + 1 => stepL g r (stepsL g r)
theorem tab_steps {g : Gm} (hv : restG g) : ∀ r, tab (F g r) g.n = stepsL g r
  | 0 => rfl
  | r + 1 => by rw [tab_step hv r, tab_steps hv r]; rfl
theorem tab_rk {g : Gm} (hv : restG g) : tab (rk g) g.n = stepsL g g.n := tab_steps hv g.n

def exB : Gm := { exG with bad := [4] }
def exC : Gm := { exG with bad := [2] }
theorem small_exG : smallG exG := ⟨by decide, by decide, by decide, by decide, by decide⟩
theorem small_exB : smallG exB := ⟨by decide, by decide, by decide, by decide, by decide⟩
theorem small_exC : smallG exC := ⟨by decide, by decide, by decide, by decide, by decide⟩
theorem rest_of {g : Gm} (h1 : g.nxt.length = g.n) (h2 : ∀ i, i < g.goal.length → 0 ≤ g.goal.getD i 0 ∧ g.goal.getD i 0 < g.n ∧ (0 < i → g.goal.getD (i - 1) 0 < g.goal.getD i 0)) (h3 : ∀ i, i < g.bad.length → 0 ≤ g.bad.getD i 0 ∧ g.bad.getD i 0 < g.n ∧ (0 < i → g.bad.getD (i - 1) 0 < g.bad.getD i 0))
    (h4 : ∀ k, k < g.n → (ow g k = 0 ∨ ow g k = 1) ∧ (∀ i, i < (nx g k).length → 0 ≤ (nx g k).getD i 0 ∧ (nx g k).getD i 0 < g.n ∧ (0 < i → (nx g k).getD (i - 1) 0 < (nx g k).getD i 0)) ∧ ¬ ((k : Int) ∈ g.goal ∧ (k : Int) ∈ g.bad)) : restG g := ⟨h1, h2, h3, h4⟩
theorem rest_exG : restG exG := rest_of (by decide) (by decide) (by decide) (by decide)
theorem rest_exB : restG exB := rest_of (by decide) (by decide) (by decide) (by decide)
theorem rest_exC : restG exC := rest_of (by decide) (by decide) (by decide) (by decide)
theorem valid_of {g : Gm} (h1 : sizeG g) (h2 : restG g) : validF g = 0 := by unfold validF; rw [if_pos h1, if_pos h2]
theorem valid_exG : validF exG = 0 := valid_of (by unfold sizeG; decide) rest_exG
theorem valid_exB : validF exB = 0 := valid_of (by unfold sizeG; decide) rest_exB
theorem valid_exC : validF exC = 0 := valid_of (by unfold sizeG; decide) rest_exC
theorem rk_exG : tab (rk exG) exG.n = [2, 4, 1, 0, 3] := (tab_rk rest_exG).trans (by decide)
theorem rk_exB : tab (rk exB) exB.n = [2, -1, 1, 0, -1] := (tab_rk rest_exB).trans (by decide)
theorem rk_exC : tab (rk exC) exC.n = [-1, -1, -1, 0, -1] := (tab_rk rest_exC).trans (by decide)
theorem rk_at {g : Gm} {R : List Int} (h : tab (rk g) g.n = R) {k : Nat} (hk : k < g.n) : rk g k = R.getD k 0 := by rw [← h, tab_at _ _ _ hk]
theorem five {P : Nat → Prop} (h0 : P 0) (h1 : P 1) (h2 : P 2) (h3 : P 3) (h4 : P 4) : ∀ k, k < 5 → P k := fun k hk => by
  rcases (show k = 0 ∨ k = 1 ∨ k = 2 ∨ k = 3 ∨ k = 4 by omega) with rfl | rfl | rfl | rfl | rfl <;> assumption
theorem cho_exG : tab (choF exG) exG.n = [2, -1, -1, -1, 0] := by
  have r0 : rk exG 0 = 2 := rk_at rk_exG (by decide)
  have r1 : rk exG 1 = 4 := rk_at rk_exG (by decide)
  have r2 : rk exG 2 = 1 := rk_at rk_exG (by decide)
  have r3 : rk exG 3 = 0 := rk_at rk_exG (by decide)
  have r4 : rk exG 4 = 3 := rk_at rk_exG (by decide)
  symm
  refine tab_eq rfl (five ?_ ?_ ?_ ?_ ?_) <;> unfold choF
  · have : nx exG 0 = [1, 2] := rfl
    have o : ow exG 0 = 0 := rfl
    simp [r0, r1, r2, this, o]
  · have o : ow exG 1 = 1 := rfl
    simp [o]
  · have o : ow exG 2 = 1 := rfl
    simp [o]
  · simp [r3]
  · have : nx exG 4 = [0] := rfl
    have o : ow exG 4 = 0 := rfl
    simp [r4, r0, this, o]
theorem win_exC : tab (winF exC) exC.n = [1, 1, 1, 0, 1] := by
  symm
  refine tab_eq rfl (five ?_ ?_ ?_ ?_ ?_) <;> unfold winF <;> rw [rk_at rk_exC (by decide)] <;> rfl
theorem ctr_exC : tab (ctrF exC) exC.n = [-1, 4, -1, -1, -1] := by
  have r1 : rk exC 1 = -1 := rk_at rk_exC (by decide)
  have r3 : rk exC 3 = 0 := rk_at rk_exC (by decide)
  have r4 : rk exC 4 = -1 := rk_at rk_exC (by decide)
  symm
  refine tab_eq rfl (five ?_ ?_ ?_ ?_ ?_) <;> unfold ctrF
  · have o : ow exC 0 = 0 := rfl
    simp [o]
  · have : nx exC 1 = [3, 4] := rfl
    have o : ow exC 1 = 1 := rfl
    have b : ((1 : Nat) : Int) ∉ exC.bad := by decide
    have b' : (1 : Int) ∉ exC.bad := by decide
    simp [r1, r3, r4, this, o, b']
  · have b : (2 : Int) ∈ exC.bad := by decide
    simp [b]
  · simp [r3]
  · have o : ow exC 4 = 0 := rfl
    simp [o]
theorem play_ex : playG exG 1 [2, -1, -1, -1, 0] [1] = .tup [ints [1, 4, 0, 2, 3], I 0] := by
  have step : ∀ {f k made : Nat} {m : Int}, goesOn exG k → moveF exG [2, -1, -1, -1, 0] [1] k made = m → m ∈ nx exG k → playF exG [2, -1, -1, -1, 0] [1] (f + 1) k made = m :: playF exG [2, -1, -1, -1, 0] [1] f m.toNat (made + 1) := fun {f k made m} h1 h2 h3 => by
    rw [playF, h2, if_pos ⟨h1, h3⟩]
  have e : playF exG [2, -1, -1, -1, 0] [1] 4096 1 0 = [4, 0, 2, 3] := by
    rw [show (4096 : Nat) = 4092 + 1 + 1 + 1 + 1 from rfl]
    rw [step (m := 4) (by unfold goesOn; decide) (by decide) (by decide), step (m := 0) (by unfold goesOn; decide) (by decide) (by decide), step (m := 2) (by unfold goesOn; decide) (by decide) (by decide), step (m := 3) (by unfold goesOn; decide) (by decide) (by decide)]
    rw [play_stop _ _ _ _ _ _ (fun h => h.1.1 (by decide))]
  unfold playG
  rw [if_neg (by rw [valid_exG]; simp), if_neg (by decide)]
  rw [show (1 : Int).toNat = 1 from rfl, e]
theorem check_ex1 : checkG exG 1 [2, 4, 1, 0, 3] [2, -1, -1, -1, 0] = 0 := by
  unfold checkG
  rw [if_neg (by rw [valid_exG]; simp), if_pos ⟨by unfold fitC; decide, by unfold nodeC okK; decide⟩]
theorem check_ex5 : checkG exG 5 [2, 4, 1, 0, 3] [2, -1, -1, -1, 0] = 22 := by
  unfold checkG
  rw [if_neg (by rw [valid_exG]; simp), if_neg fun h => absurd h.1 (by unfold fitC; decide)]
theorem checkw_ex0 : checkW exC 0 [1, 1, 1, 0, 1] [-1, 4, -1, -1, -1] = 0 := by
  unfold checkW
  rw [if_neg (by rw [valid_exC]; simp), if_pos ⟨by unfold fitW; decide, by unfold nodeW okW; decide⟩]
theorem checkw_ex3 : checkW exC 3 [1, 1, 1, 0, 1] [-1, 4, -1, -1, -1] = 22 := by
  unfold checkW
  rw [if_neg (by rw [valid_exC]; simp), if_neg fun h => absurd h.1 (by unfold fitW; decide)]
def emptyG : Gm := ⟨[], [], [], []⟩
theorem valid_empty : validF emptyG = 4 := by
  unfold validF
  rw [if_neg (by unfold sizeG; decide)]
end
end Go.Ab.G
