/- Contracts of functions of this chapter, for every argument that fits, and what they need. -/
import Derived.Test.YtlhlhpgcjjhjkaaG4
import Derived.Test.YtlhlhpgcjjhjkaaGC
set_option linter.unusedSimpArgs false
set_option linter.unusedVariables false
namespace Go.Ab.G
open Go Go.RowKit
open Classical
noncomputable section
set_option linter.unusedSimpArgs false
set_option linter.unusedVariables false

def numS (l : List Int) : Nat := (1 + atF l 0 8).toNat
def ownS (l : List Int) (k : Nat) : Int := atF l (1 + 3 * k : Nat) 2
def bitS (l : List Int) (k : Nat) : Int := if 0 < atF l (3 + 3 * k : Nat) 3 then iand .i64 (atF l (2 + 3 * k : Nat) 256) (atF l (3 + 3 * k : Nat) 256) else atF l (2 + 3 * k : Nat) 256
def isB (b m : Int) : Prop := iand .i64 (ishr .i64 b m) 1 = 1
def pickB (b : Int) (n : Nat) : List Int := (allN n).filter fun m => decide (isB b m)
def kindS (l : List Int) (k : Int) : Int := atF l (26 + k) 6
def goalS (l : List Int) (n : Nat) : List Int := (allN n).filter fun k => decide (kindS l k = 0)
def badS (l : List Int) (n : Nat) : List Int := (allN n).filter fun k => decide (kindS l k = 1)
def nextS (l : List Int) (n k : Nat) : List (List Int) := (List.range k).map fun q => pickB (bitS l q) n
def someG (l : List Int) : Gm := ⟨tab (ownS l) (numS l), nextS l (numS l) (numS l), goalS l (numS l), badS l (numS l)⟩

theorem numS_bound (l : List Int) : 1 ≤ numS l ∧ numS l ≤ 8 := by
  have := atF_bound l 0 8 (by omega)
  unfold numS; omega
theorem filt_succ (p : Int → Prop) [DecidablePred p] (n : Nat) : (allN (n + 1)).filter (fun m => decide (p m)) = (allN n).filter (fun m => decide (p m)) ++ (if p n then [(n : Int)] else []) := by
  rw [allN_succ, List.filter_append]
  by_cases h : p n <;> simp [h]
theorem rising_snoc {l : List Int} {n : Nat} {x : Int} (h : rising l n) (hx : ∀ y ∈ l, y < x) (h0 : 0 ≤ x) (m : Nat) (hm : x < m) (hnm : n ≤ m) : rising (l ++ [x]) m := by
  intro i hi
  simp only [List.length_append, List.length_cons, List.length_nil] at hi
  have hat : ∀ q, q < l.length → (l ++ [x]).getD q 0 = l.getD q 0 := fun q hq => by
    simp [List.getD_eq_getElem?_getD, List.getElem?_append_left hq]
  have hend : (l ++ [x]).getD l.length 0 = x := by simp [List.getD_eq_getElem?_getD]
  by_cases e : i < l.length
  · have := h i e
    rw [hat i e]
    refine ⟨this.1, by omega, fun hp => ?_⟩
    rw [hat (i - 1) (by omega)]
    exact this.2.2 hp
  · obtain rfl : i = l.length := by omega
    rw [hend]
    refine ⟨h0, by omega, fun hp => ?_⟩
    rw [hat _ (by omega)]
    exact hx _ (getD_memG (by omega))
theorem rising_mono {l : List Int} {n m : Nat} (h : rising l n) (hnm : n ≤ m) : rising l m := fun i hi => ⟨(h i hi).1, by have := (h i hi).2.1; omega, (h i hi).2.2⟩
theorem rising_filt (p : Int → Prop) [DecidablePred p] : ∀ n, rising ((allN n).filter fun m => decide (p m)) n
  | 0 => fun i hi => by simp [allN] at hi
  | n + 1 => by
    rw [filt_succ]
    have ih := rising_filt p n
    by_cases h : p n
    · rw [if_pos h]
      refine rising_snoc ih (fun y hy => ?_) (by omega) _ (by omega) (by omega)
      exact (allN_mem.1 (List.mem_filter.1 hy).1).2
    · rw [if_neg h, List.append_nil]
      exact rising_mono ih (by omega)
theorem someG_n (l : List Int) : (someG l).n = numS l := tab_len _ _
theorem someG_nx (l : List Int) (k : Nat) (h : k < numS l) : nx (someG l) k = pickB (bitS l k) (numS l) := by
  unfold nx someG nextS
  simp [List.getD_eq_getElem?_getD, h]
theorem someG_ow (l : List Int) (k : Nat) (h : k < numS l) : ow (someG l) k = ownS l k := tab_at _ _ _ h
theorem someG_ok (l : List Int) : validF (someG l) = 0 := by
  have hb := numS_bound l
  have hs : sizeG (someG l) := ⟨by rw [someG_n]; omega, by rw [someG_n]; omega⟩
  have hr : restG (someG l) := by
    refine ⟨by rw [someG_n]; simp [someG, nextS], by rw [someG_n]; exact rising_filt _ _, by rw [someG_n]; exact rising_filt _ _, fun k hk => ?_⟩
    rw [someG_n] at hk
    refine ⟨?_, ?_, ?_⟩
    · rw [someG_ow _ _ hk]
      have := atF_bound l (1 + 3 * k : Nat) 2 (by omega)
      unfold ownS; omega
    · rw [someG_nx _ _ hk, someG_n]; exact rising_filt _ _
    · rintro ⟨h1, h2⟩
      have e1 := (List.mem_filter.1 h1).2
      have e2 := (List.mem_filter.1 h2).2
      simp at e1 e2
      omega
  unfold validF; rw [if_pos hs, if_pos hr]
theorem filt_len (p : Int → Bool) (n : Nat) : ((allN n).filter p).length ≤ n := by
  have := List.length_filter_le p (allN n)
  rw [allN_len] at this; exact this
theorem someG_small (l : List Int) : smallG (someG l) := by
  have hb := numS_bound l
  refine ⟨by show (tab _ _).length < _; rw [tab_len]; omega, by simp [someG, nextS]; omega, ?_, ?_, fun q hq => ?_⟩
  · have := filt_len (fun k => decide (kindS l k = 0)) (numS l)
    show ((allN _).filter _).length < _; omega
  · have := filt_len (fun k => decide (kindS l k = 1)) (numS l)
    show ((allN _).filter _).length < _; omega
  · simp only [someG, nextS, List.mem_map] at hq
    obtain ⟨k, _, rfl⟩ := hq
    have := filt_len (fun m => decide (isB (bitS l k) m)) (numS l)
    show ((allN _).filter _).length < _; omega
theorem nextS_len (l : List Int) (n k : Nat) : (nextS l n k).length = k := by simp [nextS]
theorem nextS_succ (l : List Int) (n k : Nat) : nextS l n (k + 1) = nextS l n k ++ [pickB (bitS l k) n] := by simp [nextS, List.range_succ]
end
end Go.Ab.G
