/- Contracts of functions of this chapter, for every argument that fits, and what they need. -/
import Derived.Test.YtlhlhpgcjjhjkaaG11
set_option linter.unusedSimpArgs false
set_option linter.unusedVariables false
namespace Go.Ab.G
open Go Go.RowKit Go.Proofs
noncomputable section
set_option maxRecDepth 10000
set_option maxHeartbeats 2000000
set_option linter.unusedSimpArgs false
set_option linter.unusedVariables false
open Classical


/-! ### Play -/
def goesOn (g : Gm) (k : Nat) : Prop := (k : Int) ∉ g.goal ∧ (k : Int) ∉ g.bad ∧ nx g k ≠ []
def pickF (l : List Int) (made : Nat) (faults : List Int) : Int := l.getD (if made < faults.length then ((faults.getD made 0).tmod l.length + l.length).tmod l.length else 0).toNat 0
def moveF (g : Gm) (C faults : List Int) (k made : Nat) : Int := if ow g k = 1 then pickF (nx g k) made faults else C.getD k 0
def playF (g : Gm) (C faults : List Int) : Nat → Nat → Nat → List Int
  | 0, _, _ => []
  | f + 1, k, made => if goesOn g k ∧ moveF g C faults k made ∈ nx g k then moveF g C faults k made :: playF g C faults f (moveF g C faults k made).toNat (made + 1) else []
def playG (g : Gm) (fr : Int) (C faults : List Int) : AV := if validF g ≠ 0 then .tup [ints [], I (validF g)] else if fr < 0 ∨ g.n ≤ fr ∨ C.length ≠ g.n then .tup [ints [], I 1] else .tup [ints (fr :: playF g C faults 4096 fr.toNat 0), I 0]

def pos (g : Gm) (C faults : List Int) (fr : Int) : Nat → Nat
  | 0 => fr.toNat
  | j + 1 => (moveF g C faults (pos g C faults fr j) j).toNat
def goOk (g : Gm) (C faults : List Int) (fr : Int) (i : Nat) : Prop := goesOn g (pos g C faults fr i) ∧ moveF g C faults (pos g C faults fr i) i ∈ nx g (pos g C faults fr i)
def wayL (g : Gm) (C faults : List Int) (fr : Int) (j : Nat) : List Int := tab (fun i => (pos g C faults fr i : Nat)) (j + 1)
theorem wayL_len (g : Gm) (C faults : List Int) (fr : Int) (j : Nat) : (wayL g C faults fr j).length = j + 1 := tab_len _ _
theorem wayL_succ (g : Gm) (C faults : List Int) (fr : Int) (j : Nat) : wayL g C faults fr (j + 1) = wayL g C faults fr j ++ [(pos g C faults fr (j + 1) : Int)] := tab_succ _ _
theorem play_split (g : Gm) (hv : restG g) (C faults : List Int) (fr : Int) (h0 : 0 ≤ fr) (hfr : fr < g.n) (N : Nat) : ∀ j, j ≤ N → (∀ i, i < j → goOk g C faults fr i) → fr :: playF g C faults N fr.toNat 0 = wayL g C faults fr j ++ playF g C faults (N - j) (pos g C faults fr j) j
  | 0, _, _ => by
    have : wayL g C faults fr 0 = [fr] := by simp [wayL, tab, pos]; omega
    rw [this]; rfl
  | j + 1, hj, h => by
    rw [play_split g hv C faults fr h0 hfr N j (by omega) (fun i hi => h i (by omega)), wayL_succ]
    have hg := h j (by omega)
    obtain ⟨f, hf⟩ : ∃ f, N - j = f + 1 := ⟨N - j - 1, by omega⟩
    have hm : (0 : Int) ≤ moveF g C faults (pos g C faults fr j) j := by
      have hk : pos g C faults fr j < g.n := by
        cases j with
        | zero => show fr.toNat < g.n; omega
        | succ i =>
          have h1 := h i (by omega)
          have hki : pos g C faults fr i < g.n := Classical.byContradiction fun e => by
            have : nx g (pos g C faults fr i) = [] := by
              unfold nx; rw [List.getD_eq_getElem?_getD, List.getElem?_eq_none (by rw [hv.1]; omega)]; rfl
            exact h1.1.2.2 this
          have := nx_in hv hki h1.2
          show (moveF g C faults (pos g C faults fr i) i).toNat < g.n
          omega
      exact (nx_in hv hk hg.2).1
    have e : ((pos g C faults fr (j + 1) : Nat) : Int) = moveF g C faults (pos g C faults fr j) j := by
      show ((moveF g C faults (pos g C faults fr j) j).toNat : Int) = _
      omega
    have hg' : goesOn g (pos g C faults fr j) ∧ moveF g C faults (pos g C faults fr j) j ∈ nx g (pos g C faults fr j) := hg
    rw [hf, playF, if_pos hg', show N - (j + 1) = f by omega, List.append_assoc, e]
    rfl
theorem play_stop (g : Gm) (C faults : List Int) (f k j : Nat) (h : ¬ (goesOn g k ∧ moveF g C faults k j ∈ nx g k)) : playF g C faults f k j = [] := by
  cases f with
  | zero => rfl
  | succ f => rw [playF, if_neg h]
theorem wayL_zero (g : Gm) (C faults : List Int) (fr : Int) (h : 0 ≤ fr) : wayL g C faults fr 0 = [fr] := by simp [wayL, tab, pos]; omega

end
end Go.Ab.G
