/- Contracts of functions of these chapters, for every argument that fits, and what they need. -/
import Derived.Test.YtefjhgcndhepeaaAb4
import Derived.Test.YtefjhgcndhepeaaRows
import Derived.KernelRfl
set_option linter.unusedSimpArgs false
set_option linter.unusedVariables false
namespace Go.Ab.N
open Go.Ab
open Classical
noncomputable section
set_option linter.unusedSimpArgs false
set_option linter.unusedVariables false

/-- Powers of the base. -/
def pw : Nat → Int
  | 0 => 1
  | n + 1 => 1000000000 * pw n
theorem pw_pos : ∀ n, 0 < pw n
  | 0 => by simp [pw]
  | n + 1 => by have := pw_pos n; simp only [pw]; omega
theorem pw_add (m n : Nat) : pw (m + n) = pw m * pw n := by
  induction m with
  | zero => simp [pw]
  | succ m ih => rw [show m + 1 + n = (m + n) + 1 by omega]; simp only [pw]; rw [ih, Int.mul_assoc]
theorem pw_mono {m n : Nat} (h : m ≤ n) : pw m ≤ pw n := by
  obtain ⟨k, rfl⟩ := Nat.exists_eq_add_of_le h
  induction k with
  | zero => exact Int.le_refl _
  | succ k ih =>
    have h1 := ih (by omega)
    have h2 := pw_pos (m + k)
    rw [show m + (k + 1) = (m + k) + 1 by omega]
    simp only [pw]; omega

/-- The value of digits, the least one first. -/
def val : List Int → Int
  | [] => 0
  | d :: l => d + 1000000000 * val l
def digt (d : Int) : Prop := 0 ≤ d ∧ d < 1000000000
def dig (l : List Int) : Prop := ∀ d ∈ l, digt d
def canon (l : List Int) : Prop := dig l ∧ (l ≠ [] → l.getD (l.length - 1) 0 ≠ 0)
theorem dig_nil : dig [] := fun _ h => by cases h
theorem dig_cons {d : Int} {l : List Int} : dig (d :: l) ↔ digt d ∧ dig l := by unfold dig; simp
theorem dig_app {l m : List Int} : dig (l ++ m) ↔ dig l ∧ dig m := by
  unfold dig
  constructor
  · exact fun h => ⟨fun d hd => h d (List.mem_append_left _ hd), fun d hd => h d (List.mem_append_right _ hd)⟩
  · rintro ⟨h1, h2⟩ d hd
    rcases List.mem_append.1 hd with h | h
    · exact h1 d h
    · exact h2 d h
theorem dig_at {l : List Int} (h : dig l) (i : Nat) : digt (l.getD i 0) := by
  by_cases hi : i < l.length
  · exact h _ (getD_mem hi)
  · rw [List.getD_eq_getElem?_getD, List.getElem?_eq_none (by omega)]; exact ⟨by simp, by simp⟩
theorem dig_take {l : List Int} (h : dig l) (n : Nat) : dig (l.take n) := fun d hd => h d (List.mem_of_mem_take hd)
theorem dig_of_at {l : List Int} (h : ∀ i, i < l.length → digt (l.getD i 0)) : dig l := by
  intro d hd
  obtain ⟨i, hi, rfl⟩ := List.getElem_of_mem hd
  have := h i hi
  rwa [List.getD_eq_getElem?_getD, List.getElem?_eq_getElem hi] at this
theorem val_nonneg {l : List Int} (h : dig l) : 0 ≤ val l := by
  induction l with
  | nil => exact Int.le_refl 0
  | cons d l ih =>
    obtain ⟨h1, h2⟩ := dig_cons.1 h
    have := ih h2
    simp only [val]; unfold digt at h1; omega
theorem val_lt {l : List Int} (h : dig l) : val l < pw l.length := by
  induction l with
  | nil => simp [val, pw]
  | cons d l ih =>
    obtain ⟨h1, h2⟩ := dig_cons.1 h
    have := ih h2
    simp only [val, List.length_cons, pw]; unfold digt at h1; omega
theorem val_app (l m : List Int) : val (l ++ m) = val l + pw l.length * val m := by
  induction l with
  | nil => simp [val, pw]
  | cons d l ih =>
    simp only [List.cons_append, val, List.length_cons, pw]
    rw [ih, Int.mul_add, Int.mul_assoc]; omega
theorem val_snoc (l : List Int) (x : Int) : val (l ++ [x]) = val l + pw l.length * x := by
  rw [val_app]; simp [val]
theorem val_take_succ (l : List Int) (i : Nat) (h : i < l.length) : val (l.take (i + 1)) = val (l.take i) + pw i * l.getD i 0 := by
  rw [take_succ_getD l 0 i h, val_snoc, List.length_take, Nat.min_eq_left (by omega)]
theorem val_zeros (n : Nat) : val (List.replicate n 0) = 0 := by
  induction n with
  | zero => rfl
  | succ n ih => simp [List.replicate_succ, val, ih]
theorem val_eq_zero {l : List Int} (h : canon l) : val l = 0 ↔ l = [] := by
  constructor
  · intro h0
    apply Classical.byContradiction
    intro hne
    have hl := h.2 hne
    have hlen : 0 < l.length := List.length_pos_iff.2 hne
    have e := val_take_succ l (l.length - 1) (by omega)
    rw [show l.length - 1 + 1 = l.length by omega, List.take_length] at e
    have h1 := val_nonneg (dig_take h.1 (l.length - 1))
    have h2 := dig_at h.1 (l.length - 1)
    have h3 := pw_pos (l.length - 1)
    have h4 : 0 < pw (l.length - 1) * l.getD (l.length - 1) 0 := Int.mul_pos h3 (by unfold digt at h2; omega)
    omega
  · rintro rfl; rfl
theorem canon_ge {l : List Int} (h : canon l) (hne : l ≠ []) : pw (l.length - 1) ≤ val l := by
  have hl := h.2 hne
  have hlen : 0 < l.length := List.length_pos_iff.2 hne
  have e := val_take_succ l (l.length - 1) (by omega)
  rw [show l.length - 1 + 1 = l.length by omega, List.take_length] at e
  have h1 := val_nonneg (dig_take h.1 (l.length - 1))
  have h2 := dig_at h.1 (l.length - 1)
  have h3 := pw_pos (l.length - 1)
  have h4 : pw (l.length - 1) * 1 ≤ pw (l.length - 1) * l.getD (l.length - 1) 0 := Int.mul_le_mul_of_nonneg_left (by unfold digt at h2; omega) (by omega)
  omega
theorem val_inj : ∀ {a b : List Int}, dig a → dig b → a.length = b.length → val a = val b → a = b
  | [], [], _, _, _, _ => rfl
  | [], _ :: _, _, _, h, _ => by simp at h
  | _ :: _, [], _, _, h, _ => by simp at h
  | x :: a, y :: b, ha, hb, hl, hv => by
    obtain ⟨h1, h2⟩ := dig_cons.1 ha
    obtain ⟨h3, h4⟩ := dig_cons.1 hb
    simp only [val] at hv
    unfold digt at h1 h3
    have hxy : x = y := by omega
    have hv' : val a = val b := by omega
    rw [hxy, val_inj h2 h4 (by simpa using hl) hv']
theorem canon_inj {a b : List Int} (ha : canon a) (hb : canon b) (h : val a = val b) : a = b := by
  have key : ∀ {a b : List Int}, canon a → canon b → val a = val b → a.length ≤ b.length → a = b := by
    intro a b ha hb h hl
    by_cases e : a.length = b.length
    · exact val_inj ha.1 hb.1 e h
    · exfalso
      have hne : b ≠ [] := fun e' => by
        have : b.length = 0 := by rw [e']; rfl
        omega
      have h1 := canon_ge hb hne
      have h2 := val_lt ha.1
      have h3 := pw_mono (show a.length ≤ b.length - 1 by omega)
      omega
  rcases Nat.le_total a.length b.length with hl | hl
  · exact key ha hb h hl
  · exact (key hb ha h.symm hl).symm

/-- The canonical digits of a number. -/
def digs (n : Nat) : List Int := if h : n = 0 then [] else ((n % 1000000000 : Nat) : Int) :: digs (n / 1000000000)
termination_by n
decreasing_by omega
theorem digs_zero : digs 0 = [] := by rw [digs]; simp
theorem digs_pos {n : Nat} (h : n ≠ 0) : digs n = ((n % 1000000000 : Nat) : Int) :: digs (n / 1000000000) := by rw [digs]; simp [h]
theorem digs_val (n : Nat) : val (digs n) = n := by
  induction n using Nat.strongRecOn with
  | ind n ih =>
    by_cases h : n = 0
    · subst h; rw [digs_zero]; rfl
    · rw [digs_pos h]
      simp only [val]
      rw [ih (n / 1000000000) (by omega)]; omega
theorem digs_dig (n : Nat) : dig (digs n) := by
  induction n using Nat.strongRecOn with
  | ind n ih =>
    by_cases h : n = 0
    · subst h; rw [digs_zero]; exact dig_nil
    · rw [digs_pos h]
      exact dig_cons.2 ⟨⟨by omega, by omega⟩, ih _ (by omega)⟩
theorem digs_ne {n : Nat} (h : n ≠ 0) : digs n ≠ [] := by rw [digs_pos h]; simp
theorem digs_nil_iff {n : Nat} : digs n = [] ↔ n = 0 := ⟨fun h => Classical.byContradiction fun e => digs_ne e h, fun h => by rw [h]; exact digs_zero⟩
theorem digs_canon (n : Nat) : canon (digs n) := by
  refine ⟨digs_dig n, ?_⟩
  induction n using Nat.strongRecOn with
  | ind n ih =>
    intro hne
    by_cases h : n = 0
    · subst h; exact absurd digs_zero hne
    · rw [digs_pos h]
      by_cases h2 : n / 1000000000 = 0
      · rw [h2, digs_zero]; simp; omega
      · have hn := digs_ne h2
        have := ih (n / 1000000000) (by omega) hn
        obtain ⟨k, hk⟩ : ∃ k, (digs (n / 1000000000)).length = k + 1 := ⟨(digs (n / 1000000000)).length - 1, by have := List.length_pos_iff.2 hn; omega⟩
        simp only [List.length_cons, hk, Nat.add_sub_cancel] at this ⊢
        simpa using this
theorem digs_of_canon {l : List Int} (h : canon l) : digs (val l).toNat = l := by
  refine canon_inj (digs_canon _) h ?_
  rw [digs_val]
  have := val_nonneg h.1
  omega
theorem val_nat {l : List Int} (h : dig l) : ((val l).toNat : Int) = val l := Int.toNat_of_nonneg (val_nonneg h)

/-- Zeros at the end taken off. -/
def trim (l : List Int) : Nat → Nat
  | 0 => 0
  | n + 1 => if l.getD n 0 = 0 then trim l n else n + 1
theorem trim_le (l : List Int) : ∀ n, trim l n ≤ n
  | 0 => Nat.le_refl _
  | n + 1 => by
    simp only [trim]
    split
    · exact Nat.le_succ_of_le (trim_le l n)
    · exact Nat.le_refl _
theorem trim_val {l : List Int} : ∀ n, n ≤ l.length → val (l.take (trim l n)) = val (l.take n)
  | 0, _ => rfl
  | n + 1, h => by
    simp only [trim]
    split
    · rename_i e
      rw [trim_val n (by omega), val_take_succ l n h, e]; simp
    · rfl
theorem trim_canon {l : List Int} (h : dig l) (n : Nat) (hn : n ≤ l.length) : canon (l.take (trim l n)) := by
  refine ⟨dig_take h _, fun hne => ?_⟩
  induction n with
  | zero => simp [trim] at hne
  | succ n ih =>
    simp only [trim] at hne ⊢
    split
    · rename_i e; rw [if_pos e] at hne; exact ih (by omega) hne
    · rename_i e
      rw [List.length_take, Nat.min_eq_left hn, Nat.add_sub_cancel, getD_take l 0 n (n + 1) (by omega)]
      exact e
theorem trim_digs {l : List Int} (h : dig l) : l.take (trim l l.length) = digs (val l).toNat := by
  have h1 := trim_canon h l.length (Nat.le_refl _)
  rw [← digs_of_canon h1, trim_val _ (Nat.le_refl _), List.take_length]

/-- Sums of digits that a function tells. -/
def sm (f : Nat → Int) : Nat → Int
  | 0 => 0
  | n + 1 => sm f n + pw n * f n
def tab (f : Nat → Int) (n : Nat) : List Int := (List.range n).map f
theorem tab_len (f : Nat → Int) (n : Nat) : (tab f n).length = n := by simp [tab]
theorem tab_succ (f : Nat → Int) (n : Nat) : tab f (n + 1) = tab f n ++ [f n] := by simp [tab, List.range_succ]
theorem tab_at (f : Nat → Int) (n i : Nat) (h : i < n) : (tab f n).getD i 0 = f i := by simp [tab, List.getD_eq_getElem?_getD, h]
theorem tab_congr {f f' : Nat → Int} {n : Nat} (h : ∀ k, k < n → f k = f' k) : tab f n = tab f' n := List.map_congr_left fun k hk => h k (by simpa using hk)
theorem val_tab (f : Nat → Int) : ∀ n, val (tab f n) = sm f n
  | 0 => rfl
  | n + 1 => by rw [tab_succ, val_snoc, tab_len, val_tab f n]; rfl
theorem sm_take (l : List Int) : ∀ n, n ≤ l.length → sm (fun i => l.getD i 0) n = val (l.take n)
  | 0, _ => rfl
  | n + 1, h => by rw [val_take_succ l n h, ← sm_take l n (by omega)]; rfl
theorem sm_len (l : List Int) (n : Nat) (h : l.length ≤ n) : sm (fun i => l.getD i 0) n = val l := by
  obtain ⟨k, rfl⟩ := Nat.exists_eq_add_of_le h
  induction k with
  | zero => rw [Nat.add_zero, sm_take l _ (Nat.le_refl _), List.take_length]
  | succ k ih =>
    rw [show l.length + (k + 1) = (l.length + k) + 1 by omega]
    simp only [sm]
    rw [ih (by omega)]
    have : l.getD (l.length + k) 0 = 0 := by rw [List.getD_eq_getElem?_getD, List.getElem?_eq_none (by omega)]; rfl
    rw [this]; simp
theorem sm_congr {f f' : Nat → Int} : ∀ {n : Nat}, (∀ k, k < n → f k = f' k) → sm f n = sm f' n
  | 0, _ => rfl
  | n + 1, h => by simp only [sm]; rw [sm_congr fun k hk => h k (by omega), h n (by omega)]
theorem dig_tab {f : Nat → Int} {n : Nat} (h : ∀ i, i < n → digt (f i)) : dig (tab f n) := by
  refine dig_of_at fun i hi => ?_
  rw [tab_len] at hi
  rw [tab_at _ _ _ hi]; exact h i hi

/-! ### Addition -/
def addC (a b : Nat → Int) : Nat → Int
  | 0 => 0
  | i + 1 => if 1000000000 ≤ a i + b i + addC a b i then 1 else 0
def addO (a b : Nat → Int) (i : Nat) : Int := if 1000000000 ≤ a i + b i + addC a b i then a i + b i + addC a b i - 1000000000 else a i + b i + addC a b i
theorem addC_bit (a b : Nat → Int) : ∀ i, addC a b i = 0 ∨ addC a b i = 1
  | 0 => .inl rfl
  | i + 1 => by simp only [addC]; split <;> simp
theorem addO_dig {a b : Nat → Int} {i : Nat} (ha : digt (a i)) (hb : digt (b i)) : digt (addO a b i) := by
  have := addC_bit a b i
  unfold digt at *
  unfold addO
  split <;> omega
theorem add_sum (a b : Nat → Int) : ∀ n, sm (addO a b) n + pw n * addC a b n = sm a n + sm b n
  | 0 => by simp [sm, addC]
  | n + 1 => by
    have ih := add_sum a b n
    have e : addO a b n + 1000000000 * addC a b (n + 1) = a n + b n + addC a b n := by
      simp only [addO, addC]
      split <;> omega
    simp only [sm, pw]
    have : pw n * (addO a b n + 1000000000 * addC a b (n + 1)) = pw n * (a n + b n + addC a b n) := by rw [e]
    grind

/-! ### Subtraction -/
def subC (a b : Nat → Int) : Nat → Int
  | 0 => 0
  | i + 1 => if a i - b i - subC a b i < 0 then 1 else 0
def subO (a b : Nat → Int) (i : Nat) : Int := if a i - b i - subC a b i < 0 then a i - b i - subC a b i + 1000000000 else a i - b i - subC a b i
theorem subC_bit (a b : Nat → Int) : ∀ i, subC a b i = 0 ∨ subC a b i = 1
  | 0 => .inl rfl
  | i + 1 => by simp only [subC]; split <;> simp
theorem subO_dig {a b : Nat → Int} {i : Nat} (ha : digt (a i)) (hb : digt (b i)) : digt (subO a b i) := by
  have := subC_bit a b i
  unfold digt at *
  unfold subO
  split <;> omega
theorem sub_sum (a b : Nat → Int) : ∀ n, sm (subO a b) n - pw n * subC a b n = sm a n - sm b n
  | 0 => by simp [sm, subC]
  | n + 1 => by
    have ih := sub_sum a b n
    have e : subO a b n - 1000000000 * subC a b (n + 1) = a n - b n - subC a b n := by
      simp only [subO, subC]
      split <;> omega
    simp only [sm, pw]
    have : pw n * (subO a b n - 1000000000 * subC a b (n + 1)) = pw n * (a n - b n - subC a b n) := by rw [e]
    grind
theorem sm_lt {f : Nat → Int} : ∀ {n : Nat}, (∀ i, i < n → digt (f i)) → 0 ≤ sm f n ∧ sm f n < pw n
  | 0, _ => by simp [sm, pw]
  | n + 1, h => by
    obtain ⟨h1, h2⟩ := sm_lt (n := n) fun i hi => h i (by omega)
    have h3 := h n (by omega)
    have h4 := pw_pos n
    unfold digt at h3
    have h5 : pw n * f n ≤ pw n * 999999999 := Int.mul_le_mul_of_nonneg_left (by omega) (by omega)
    have h6 : 0 ≤ pw n * f n := Int.mul_nonneg (by omega) h3.1
    simp only [sm, pw]; omega
/-- No borrow is left, if what is taken away is not more. -/
theorem sub_end {a b : Nat → Int} {n : Nat} (ha : ∀ i, i < n → digt (a i)) (hb : ∀ i, i < n → digt (b i)) (h : sm b n ≤ sm a n) : subC a b n = 0 := by
  have h1 := sub_sum a b n
  have h2 := (sm_lt (f := subO a b) (n := n) fun i hi => subO_dig (ha i hi) (hb i hi)).2
  rcases subC_bit a b n with e | e
  · exact e
  · rw [e] at h1; omega
end
end Go.Ab.N

namespace Go.Ab.N
open Go.Ab
open Classical
noncomputable section
set_option linter.unusedSimpArgs false
set_option linter.unusedVariables false

theorem getD_setI (l : List Int) (i j : Nat) (x : Int) (hi : i < l.length) : (l.set i x).getD j 0 = if j = i then x else l.getD j 0 := by
  simp only [List.getD_eq_getElem?_getD, List.getElem?_set]
  by_cases h : i = j
  · subst h; simp [hi]
  · simp [h, Ne.symm h]
theorem val_set : ∀ (l : List Int) (i : Nat) (x : Int), i < l.length → val (l.set i x) = val l + pw i * (x - l.getD i 0)
  | [], _, _, h => by simp at h
  | d :: l, 0, x, _ => by simp [val, pw]; omega
  | d :: l, i + 1, x, h => by
    have ih := val_set l i x (by simpa using h)
    simp only [List.set_cons_succ, val, pw, List.getD_cons_succ]
    rw [ih, Int.mul_add, Int.mul_assoc]; omega
theorem dig_set {l : List Int} (h : dig l) (i : Nat) {x : Int} (hx : digt x) : dig (l.set i x) := fun d hd => by
  rcases List.mem_or_eq_of_mem_set hd with e | e
  · exact h d e
  · rw [e]; exact hx
theorem digt_mul {x y : Int} (hx : digt x) (hy : digt y) : 0 ≤ x * y ∧ x * y ≤ 999999998000000001 := by
  unfold digt at hx hy
  have h1 : 0 ≤ x * y := Int.mul_nonneg hx.1 hy.1
  have h2 : x * y ≤ 999999999 * y := Int.mul_le_mul_of_nonneg_right (by omega) hy.1
  omega
/-- The rest of a list from an index on. -/
theorem val_drop (l : List Int) (i : Nat) (h : i < l.length) : val (l.drop i) = l.getD i 0 + 1000000000 * val (l.drop (i + 1)) := by
  rw [List.drop_eq_getElem_cons h]
  simp only [val]
  rw [List.getD_eq_getElem?_getD, List.getElem?_eq_getElem h]; rfl
theorem val_split (l : List Int) (i : Nat) (h : i ≤ l.length) : val l = val (l.take i) + pw i * val (l.drop i) := by
  conv => lhs; rw [← List.take_append_drop i l]
  rw [val_app, List.length_take, Nat.min_eq_left h]

/-! ### Times a digit -/
def mulC (a : Nat → Int) (k : Int) : Nat → Int
  | 0 => 0
  | i + 1 => (a i * k + mulC a k i) / 1000000000
def mulO (a : Nat → Int) (k : Int) (i : Nat) : Int := (a i * k + mulC a k i) % 1000000000
theorem mulC_dig {a : Nat → Int} {k : Int} (ha : ∀ i, digt (a i)) (hk : digt k) : ∀ i, digt (mulC a k i)
  | 0 => ⟨by simp [mulC], by simp [mulC]⟩
  | i + 1 => by
    have h1 := mulC_dig ha hk i
    have h2 := digt_mul (ha i) hk
    simp only [mulC]; unfold digt at *; omega
theorem mulO_dig {a : Nat → Int} {k : Int} (ha : ∀ i, digt (a i)) (hk : digt k) (i : Nat) : digt (mulO a k i) := by
  unfold mulO digt; omega
theorem mul_sum (a : Nat → Int) (k : Int) : ∀ n, sm (mulO a k) n + pw n * mulC a k n = sm a n * k
  | 0 => by simp [sm, mulC]
  | n + 1 => by
    have ih := mul_sum a k n
    have e : mulO a k n + 1000000000 * mulC a k (n + 1) = a n * k + mulC a k n := by
      simp only [mulO, mulC]; omega
    have e2 : pw n * (mulO a k n + 1000000000 * mulC a k (n + 1)) = pw n * (a n * k + mulC a k n) := by rw [e]
    simp only [sm, pw]
    grind

/-! ### Divided by a digit -/
/-- The rest when the digits from the i-th on are divided. -/
def remD (a : List Int) (b : Int) (i : Nat) : Int := val (a.drop i) % b
def quoD (a : List Int) (b : Int) (i : Nat) : Int := (remD a b (i + 1) * 1000000000 + a.getD i 0) / b
theorem remD_step (a : List Int) (b : Int) (i : Nat) (h : i < a.length) : remD a b i = (remD a b (i + 1) * 1000000000 + a.getD i 0) % b := by
  unfold remD
  rw [val_drop a i h]
  rw [Int.add_comm, Int.mul_comm, Int.add_emod, Int.mul_emod]
  conv => rhs; rw [Int.add_emod, Int.mul_emod, Int.emod_emod_of_dvd _ (Int.dvd_refl b)]
theorem remD_end (a : List Int) (b : Int) : remD a b a.length = 0 := by unfold remD; simp [val]
theorem quoD_dig {a : List Int} {b : Int} (ha : dig a) (hb : 0 < b) (i : Nat) : digt (quoD a b i) := by
  have h1 := Int.emod_nonneg (val (a.drop (i + 1))) (show b ≠ 0 by omega)
  have h2 := Int.emod_lt_of_pos (val (a.drop (i + 1))) hb
  have h3 := dig_at ha i
  unfold digt at *
  unfold quoD remD
  refine ⟨Int.ediv_nonneg (by omega) (by omega), Int.ediv_lt_of_lt_mul hb ?_⟩
  omega
theorem quo_sum {a : List Int} {b : Int} (hb : 0 < b) : ∀ i, i ≤ a.length → val (a.drop (a.length - i)) = b * val ((tab (quoD a b) a.length).drop (a.length - i)) + remD a b (a.length - i)
  | 0, _ => by
    have e : (tab (quoD a b) a.length).drop a.length = [] := by rw [List.drop_eq_nil_iff, tab_len]; exact Nat.le_refl _
    simp [e, remD_end, val]
  | i + 1, h => by
    have ih := quo_sum (a := a) hb i (by omega)
    obtain ⟨k, hk⟩ : ∃ k, a.length - (i + 1) = k := ⟨_, rfl⟩
    have hk1 : a.length - i = k + 1 := by omega
    rw [hk1] at ih
    rw [hk]
    rw [val_drop a k (by omega), val_drop (tab (quoD a b) a.length) k (by rw [tab_len]; omega), tab_at _ _ _ (show k < a.length by omega)]
    have e := Int.mul_ediv_add_emod (remD a b (k + 1) * 1000000000 + a.getD k 0) b
    have e2 := remD_step a b k (by omega)
    have e3 : quoD a b k = (remD a b (k + 1) * 1000000000 + a.getD k 0) / b := rfl
    rw [← e3, ← e2] at e
    grind
theorem quo_all {a : List Int} {b : Int} (hb : 0 < b) : val a = b * val (tab (quoD a b) a.length) + remD a b 0 := by
  have := quo_sum (a := a) hb a.length (Nat.le_refl _)
  simpa using this
end
end Go.Ab.N

namespace Go.Ab.N
open Go.Ab
open Classical
noncomputable section
set_option linter.unusedSimpArgs false
set_option linter.unusedVariables false

/-- An integer as the program holds it. -/
def zA (z : Int) : AV := .agg [.bool (decide (z < 0)), ints (digs z.natAbs)]
theorem settled_zA (z : Int) : Settled (zA z) := settled_agg (by simp [settled_ints, settled_bool])
/-- Digits with a sign. -/
theorem nb_tf : (!(true == false)) = true := Go.Ab.nrfl rfl
theorem nb_ft : (!(false == true)) = true := Go.Ab.nrfl rfl
theorem nb_tt : (!(true == true)) = false := Go.Ab.nrfl rfl
theorem nb_ff : (!(false == false)) = false := Go.Ab.nrfl rfl
def sgn (neg : Bool) (v : Int) : Int := if neg = true then -v else v
theorem digs_len_zero {n : Nat} : (digs n).length = 0 ↔ n = 0 := by rw [List.length_eq_zero_iff, digs_nil_iff]
/-- What 'of' makes of digits. -/
theorem of_zA {l : List Int} (h : dig l) (neg : Bool) : zA (sgn neg (val l)) = .agg [.bool (neg && decide (trim l l.length ≠ 0)), ints (l.take (trim l l.length))] := by
  have h0 := val_nonneg h
  have e1 : (sgn neg (val l)).natAbs = (val l).toNat := by unfold sgn; split <;> omega
  have e2 := trim_digs h
  have hle := trim_le l l.length
  have e3 : trim l l.length = 0 ↔ val l = 0 := by
    have h1 : (l.take (trim l l.length)).length = trim l l.length := by rw [List.length_take, Nat.min_eq_left hle]
    rw [← h1, e2, digs_len_zero]; omega
  unfold zA
  rw [e1, e2]
  congr 3
  unfold sgn
  have h0' : ¬ val l < 0 := by omega
  cases neg
  · simp [h0']
  · have : -val l < 0 ↔ ¬ trim l l.length = 0 := by rw [e3]; omega
    simp only [if_true, Bool.true_and, decide_eq_decide]
    exact this
theorem trim_zero {l : List Int} {n : Nat} (h : ∀ i, i < n → l.getD i 0 = 0) : trim l n = 0 := by
  induction n with
  | zero => rfl
  | succ n ih => simp only [trim]; rw [if_pos (h n (by omega))]; exact ih fun i hi => h i (by omega)
theorem trim_from {l : List Int} {n : Nat} : ∀ m, n ≤ m → (∀ i, n ≤ i → i < m → l.getD i 0 = 0) → trim l m = trim l n
  | 0, h, _ => by rw [show n = 0 by omega]
  | m + 1, h, hz => by
    by_cases e : n = m + 1
    · rw [e]
    · simp only [trim]
      rw [if_pos (hz m (by omega) (by omega))]
      exact trim_from m (by omega) fun i h1 h2 => hz i h1 (by omega)
/-- Small numbers. -/
theorem digs_one {d : Nat} (h0 : d ≠ 0) (h : d < 1000000000) : digs d = [(d : Int)] := by
  rw [digs_pos h0, show d / 1000000000 = 0 by omega, digs_zero, show d % 1000000000 = d by omega]
theorem digs_two {d : Nat} (h0 : 1000000000 ≤ d) (h : d < 1000000000000000000) : digs d = [((d % 1000000000 : Nat) : Int), ((d / 1000000000 : Nat) : Int)] := by
  rw [digs_pos (by omega), digs_one (by omega) (by omega)]
theorem digs_three {d : Nat} (h0 : 1000000000000000000 ≤ d) (h : d < 18446744073709551616) :
    digs d = [((d % 1000000000 : Nat) : Int), ((d / 1000000000 % 1000000000 : Nat) : Int), ((d / 1000000000 / 1000000000 : Nat) : Int)] := by
  rw [digs_pos (by omega), digs_two (by omega) (by omega)]

def dg (l : List Int) : Nat → Int := fun i => l.getD i 0
theorem dg_dig {l : List Int} (h : dig l) (i : Nat) : digt (dg l i) := dig_at h i
theorem dg_out {l : List Int} {i : Nat} (h : l.length ≤ i) : dg l i = 0 := by unfold dg; rw [List.getD_eq_getElem?_getD, List.getElem?_eq_none h]; rfl
theorem sm_dg (l : List Int) (n : Nat) (h : l.length ≤ n) : sm (dg l) n = val l := sm_len l n h
/-- What 'plus' makes. -/
def plusF (a b : List Int) (n : Nat) : List Int := tab (addO (dg a) (dg b)) n ++ [addC (dg a) (dg b) n]
theorem plusF_val (a b : List Int) (n : Nat) (ha : a.length ≤ n) (hb : b.length ≤ n) : val (plusF a b n) = val a + val b := by
  unfold plusF
  rw [val_snoc, tab_len, val_tab, add_sum, sm_dg a n ha, sm_dg b n hb]
theorem plusF_dig {a b : List Int} (ha : dig a) (hb : dig b) (n : Nat) : dig (plusF a b n) := by
  unfold plusF
  refine dig_app.2 ⟨dig_tab fun i _ => addO_dig (dg_dig ha i) (dg_dig hb i), dig_cons.2 ⟨?_, dig_nil⟩⟩
  have := addC_bit (dg a) (dg b) n
  unfold digt; omega
theorem plusF_len (a b : List Int) (n : Nat) : (plusF a b n).length = n + 1 := by simp [plusF, tab_len]
theorem addO_comm (a b : Nat → Int) : ∀ i, addC a b i = addC b a i ∧ addO a b i = addO b a i
  | 0 => ⟨rfl, by unfold addO; simp [addC, Int.add_comm]⟩
  | i + 1 => by
    have h := (addO_comm a b i).1
    have e : addC a b (i + 1) = addC b a (i + 1) := by simp only [addC]; rw [h, Int.add_comm (a i)]
    exact ⟨e, by unfold addO; rw [e, Int.add_comm (a (i + 1))]⟩
/-- What 'minus' makes. -/
def minusF (a b : List Int) : List Int := tab (subO (dg a) (dg b)) a.length
theorem minusF_val {a b : List Int} (ha : dig a) (hb : dig b) (hl : b.length ≤ a.length) (h : val b ≤ val a) : val (minusF a b) = val a - val b := by
  unfold minusF
  have e := sub_end (n := a.length) (fun i _ => dg_dig ha i) (fun i _ => dg_dig hb i) (by rw [sm_dg b _ hl, sm_dg a _ (Nat.le_refl _)]; exact h)
  have e2 := sub_sum (dg a) (dg b) a.length
  rw [e, sm_dg a _ (Nat.le_refl _), sm_dg b _ hl] at e2
  rw [val_tab]; omega
theorem minusF_dig {a b : List Int} (ha : dig a) (hb : dig b) : dig (minusF a b) := dig_tab fun i _ => subO_dig (dg_dig ha i) (dg_dig hb i)
/-- Halfway: the digits below i are done, a borrow is taken from the i-th. -/
def minusM (a b : List Int) (i : Nat) : List Int := tab (fun j => if j < i then subO (dg a) (dg b) j else if j = i then dg a j - subC (dg a) (dg b) i else dg a j) a.length
theorem tab_list (l : List Int) : tab (dg l) l.length = l := by
  refine List.ext_getElem (by simp [tab]) fun i h1 h2 => ?_
  simp [tab, dg, List.getD_eq_getElem?_getD, h2]
theorem minusM_zero (a b : List Int) : minusM a b 0 = a := by
  unfold minusM
  conv => rhs; rw [← tab_list a]
  refine tab_congr fun k _ => ?_
  rw [if_neg (by omega)]
  split
  · simp [subC]
  · rfl
theorem minusM_end (a b : List Int) : minusM a b a.length = minusF a b := tab_congr fun k hk => by rw [if_pos hk]
theorem tab_setI (f : Nat → Int) (n k : Nat) (x : Int) (h : k < n) : (tab f n).set k x = tab (fun q => if q = k then x else f q) n := by
  refine List.ext_getElem (by simp [tab]) fun q h1 h2 => ?_
  have hq : q < n := by simpa [tab_len] using h2
  by_cases e : k = q
  · subst e; simp [tab]
  · simp [tab, List.getElem_set, e, Ne.symm e]
theorem getD_tab (f : Nat → Int) (n i : Nat) : (tab f n).getD i 0 = if i < n then f i else 0 := by
  by_cases h : i < n
  · rw [if_pos h, tab_at _ _ _ h]
  · rw [if_neg h, List.getD_eq_getElem?_getD, List.getElem?_eq_none (by rw [tab_len]; omega)]; rfl
end
end Go.Ab.N

namespace Go.Ab.N
open Go Go.Ab
open Classical
noncomputable section
set_option linter.unusedSimpArgs false
set_option linter.unusedVariables false
theorem weak_agg {l m : List AV} (h : WeakL l m) : Weak (.agg l) (.agg m) := fun c v hv => by
  cases hv with
  | agg vs _ hs hr =>
    have := (weak_tup h) c (.tuple vs) (.tup vs _ hs hr)
    cases this with
    | tup _ _ hs' hr' => exact .agg vs m hs' hr'
theorem weak_emp (f : Nat → AV) (t : Bool) : Weak (.sl 0 0 f t) (ints []) := weak_slW rfl (Nat.le_refl _) fun j hj => by exact absurd hj (Nat.not_lt_zero j)
/-- A literal slice of numbers. -/
theorem weak_litE {n : Nat} {L : List AV} {l : List Int} {t : Bool} (hn : n = l.length) (h : L = l.map I) : Weak (.sl n n (ofL L) t) (ints l) := by
  subst hn; subst h; exact weak_lit l t
theorem cells_ofL (L : List AV) : ∀ n off, off + n = L.length → cellsFrom (ofL L) off 0 n = L.drop off := by
  have key : ∀ n off j, off + j + n = L.length → cellsFrom (ofL L) off j n = L.drop (off + j) := by
    intro n
    induction n with
    | zero => intro off j h; rw [List.drop_eq_nil_iff.2 (by omega)]; rfl
    | succ n ih =>
      intro off j h
      rw [List.drop_eq_getElem_cons (by omega)]
      simp only [cellsFrom]
      rw [ih off (j + 1) (by omega)]
      congr 1
      show L.getD (off + j) .any = _
      rw [List.getD_eq_getElem?_getD, List.getElem?_eq_getElem (by omega)]; rfl
  intro n off h
  rw [key n off 0 (by omega)]; rfl
theorem retRef {P : Program} {fn : Func} {str hcs : List Nat} {r : AV} {s : AS} {t u id ver n : Nat} {L : List AV} (hr : fn.results = #[.cell t u]) (hk : ldk P u = some (some n)) (hs : s.get t = .ref id ver 0)
    (ho : s.h[id]? = some (.row ver n (ofL L))) (hn : L.length = n) (h : Sees s.h (.agg L) r) : RetOk (envP P fn str hcs r) s := by
  subst hn
  refine retCellP (v := .agg L) hr ?_ h
  rw [hs, aload_K, hk, aloadK_ref, ho, aloadR_row, rd_s, cells_ofL L _ _ (by omega)]
  simp [oif]
/-- The whole value is known. -/
theorem retRefE {P : Program} {fn : Func} {str hcs : List Nat} {r : AV} {s : AS} {t u id ver n : Nat} {L M : List AV} (hr : fn.results = #[.cell t u]) (hk : ldk P u = some (some n)) (hs : s.get t = .ref id ver 0)
    (ho : s.h[id]? = some (.row ver n (ofL L))) (hn : L.length = n) (e : r = .agg M) (hset : Settled r) (h : WeakL L M) : RetOk (envP P fn str hcs r) s := by
  refine retRef hr hk hs ho hn ?_
  subst e
  exact sees_of_weak hset (weak_agg h)
end
end Go.Ab.N

namespace Go.Ab.N
open Go Go.RowKit Go.Proofs
theorem ldk3 : ldk Try.prog 3 = some none := by kernel_rfl
theorem tsize3 : tsize Try.prog 3 = some 1 := by kernel_rfl
theorem ikd3 : ikd Try.prog 3 = some .i64 := by kernel_rfl
theorem zeroL3 : zeroL Try.prog 3 = some [.int .i64 0] := by kernel_rfl
theorem zeroV3 : zeroV Try.prog 3 = some (.int .i64 0) := by kernel_rfl
theorem ldk4 : ldk Try.prog 4 = some none := by kernel_rfl
theorem tsize4 : tsize Try.prog 4 = some 1 := by kernel_rfl
theorem boolT4 : boolT Try.prog 4 = true := by kernel_rfl
theorem zeroL4 : zeroL Try.prog 4 = some [.bool false] := by kernel_rfl
theorem zeroV4 : zeroV Try.prog 4 = some (.bool false) := by kernel_rfl
theorem ldk17 : ldk Try.prog 17 = some none := by kernel_rfl
theorem tsize17 : tsize Try.prog 17 = some 1 := by kernel_rfl
theorem ptrT17 : ptrT Try.prog 17 = true := by kernel_rfl
theorem zeroL17 : zeroL Try.prog 17 = some [.nil] := by kernel_rfl
theorem zeroV17 : zeroV Try.prog 17 = some (.nil) := by kernel_rfl
theorem ldk18 : ldk Try.prog 18 = some (some 1) := by kernel_rfl
theorem tsize18 : tsize Try.prog 18 = some 1 := by kernel_rfl
theorem fld18_0 : fld Try.prog 18 0 = some (0, 1, none) := by kernel_rfl
theorem bpl18_0 : bldPl Try.prog 18 0 = some (0, 1) := by kernel_rfl
theorem bok18 : bldOk Try.prog 18 = true := by kernel_rfl
theorem zeroL18 : zeroL Try.prog 18 = some [.nil] := by kernel_rfl
theorem zeroV18 : zeroV Try.prog 18 = some (.agg [.nil]) := by kernel_rfl
theorem ldk22 : ldk Try.prog 22 = some none := by kernel_rfl
theorem tsize22 : tsize Try.prog 22 = some 1 := by kernel_rfl
theorem sliceT22 : sliceT Try.prog 22 = true := by kernel_rfl
theorem elm22 : elm Try.prog 22 = some (30, 2, 16) := by kernel_rfl
theorem zeroL22 : zeroL Try.prog 22 = some [.sl 0 0 (fun _ => .any) true] := by kernel_rfl
theorem zeroV22 : zeroV Try.prog 22 = some (.sl 0 0 (fun _ => .any) true) := by kernel_rfl
theorem ldk23 : ldk Try.prog 23 = some none := by kernel_rfl
theorem tsize23 : tsize Try.prog 23 = some 1 := by kernel_rfl
theorem sliceT23 : sliceT Try.prog 23 = true := by kernel_rfl
theorem elm23 : elm Try.prog 23 = some (3, 1, 8) := by kernel_rfl
theorem zeroL23 : zeroL Try.prog 23 = some [.sl 0 0 (fun _ => .any) true] := by kernel_rfl
theorem zeroV23 : zeroV Try.prog 23 = some (.sl 0 0 (fun _ => .any) true) := by kernel_rfl
theorem ldk24 : ldk Try.prog 24 = some none := by kernel_rfl
theorem tsize24 : tsize Try.prog 24 = some 1 := by kernel_rfl
theorem sliceT24 : sliceT Try.prog 24 = true := by kernel_rfl
theorem elm24 : elm Try.prog 24 = some (36, 3, 24) := by kernel_rfl
theorem zeroL24 : zeroL Try.prog 24 = some [.sl 0 0 (fun _ => .any) true] := by kernel_rfl
theorem zeroV24 : zeroV Try.prog 24 = some (.sl 0 0 (fun _ => .any) true) := by kernel_rfl
theorem ldk27 : ldk Try.prog 27 = some none := by kernel_rfl
theorem tsize27 : tsize Try.prog 27 = some 1 := by kernel_rfl
theorem sliceT27 : sliceT Try.prog 27 = true := by kernel_rfl
theorem elm27 : elm Try.prog 27 = some (38, 3, 24) := by kernel_rfl
theorem zeroL27 : zeroL Try.prog 27 = some [.sl 0 0 (fun _ => .any) true] := by kernel_rfl
theorem zeroV27 : zeroV Try.prog 27 = some (.sl 0 0 (fun _ => .any) true) := by kernel_rfl
theorem ldk30 : ldk Try.prog 30 = some (some 2) := by kernel_rfl
theorem tsize30 : tsize Try.prog 30 = some 2 := by kernel_rfl
theorem elm30 : elm Try.prog 30 = none := by kernel_rfl
theorem bpl30_0 : bldPl Try.prog 30 0 = some (0, 1) := by kernel_rfl
theorem bpl30_1 : bldPl Try.prog 30 1 = some (1, 1) := by kernel_rfl
theorem bok30 : bldOk Try.prog 30 = true := by kernel_rfl
theorem arr30 : arr Try.prog 30 = some (2, 1, none) := by kernel_rfl
theorem zeroL30 : zeroL Try.prog 30 = some [.int .i64 0, .int .i64 0] := by kernel_rfl
theorem zeroV30 : zeroV Try.prog 30 = some (.agg [.int .i64 0, .int .i64 0]) := by kernel_rfl
theorem ldk33 : ldk Try.prog 33 = some none := by kernel_rfl
theorem tsize33 : tsize Try.prog 33 = some 1 := by kernel_rfl
theorem mapT33 : mapT Try.prog 33 = some (3, 3) := by kernel_rfl
theorem zeroL33 : zeroL Try.prog 33 = some [.nilmap] := by kernel_rfl
theorem zeroV33 : zeroV Try.prog 33 = some (.nilmap) := by kernel_rfl
theorem ldk36 : ldk Try.prog 36 = some (some 3) := by kernel_rfl
theorem tsize36 : tsize Try.prog 36 = some 3 := by kernel_rfl
theorem fld36_0 : fld Try.prog 36 0 = some (0, 1, none) := by kernel_rfl
theorem bpl36_0 : bldPl Try.prog 36 0 = some (0, 1) := by kernel_rfl
theorem fld36_1 : fld Try.prog 36 1 = some (1, 1, none) := by kernel_rfl
theorem bpl36_1 : bldPl Try.prog 36 1 = some (1, 1) := by kernel_rfl
theorem fld36_2 : fld Try.prog 36 2 = some (2, 1, none) := by kernel_rfl
theorem bpl36_2 : bldPl Try.prog 36 2 = some (2, 1) := by kernel_rfl
theorem bok36 : bldOk Try.prog 36 = true := by kernel_rfl
theorem seqT36 : seqT Try.prog 36 3 = true := by kernel_rfl
theorem zeroL36 : zeroL Try.prog 36 = some [.int .i64 0, .int .i64 0, .int .i64 0] := by kernel_rfl
theorem zeroV36 : zeroV Try.prog 36 = some (.agg [.int .i64 0, .int .i64 0, .int .i64 0]) := by kernel_rfl
theorem ldk37 : ldk Try.prog 37 = some none := by kernel_rfl
theorem tsize37 : tsize Try.prog 37 = some 1 := by kernel_rfl
theorem zeroL37 : zeroL Try.prog 37 = some [.nilfn] := by kernel_rfl
theorem zeroV37 : zeroV Try.prog 37 = some (.nilfn) := by kernel_rfl
theorem ldk38 : ldk Try.prog 38 = some (some 3) := by kernel_rfl
theorem tsize38 : tsize Try.prog 38 = some 3 := by kernel_rfl
theorem fld38_0 : fld Try.prog 38 0 = some (0, 1, none) := by kernel_rfl
theorem bpl38_0 : bldPl Try.prog 38 0 = some (0, 1) := by kernel_rfl
theorem fld38_1 : fld Try.prog 38 1 = some (1, 1, none) := by kernel_rfl
theorem bpl38_1 : bldPl Try.prog 38 1 = some (1, 1) := by kernel_rfl
theorem fld38_2 : fld Try.prog 38 2 = some (2, 1, none) := by kernel_rfl
theorem bpl38_2 : bldPl Try.prog 38 2 = some (2, 1) := by kernel_rfl
theorem bok38 : bldOk Try.prog 38 = true := by kernel_rfl
theorem seqT38 : seqT Try.prog 38 3 = true := by kernel_rfl
theorem zeroL38 : zeroL Try.prog 38 = some [.int .i64 0, .int .i64 0, .int .i64 0] := by kernel_rfl
theorem zeroV38 : zeroV Try.prog 38 = some (.agg [.int .i64 0, .int .i64 0, .int .i64 0]) := by kernel_rfl
theorem ldk39 : ldk Try.prog 39 = some none := by kernel_rfl
theorem tsize39 : tsize Try.prog 39 = some 1 := by kernel_rfl
theorem sliceT39 : sliceT Try.prog 39 = true := by kernel_rfl
theorem elm39 : elm Try.prog 39 = some (55, 2, 16) := by kernel_rfl
theorem zeroL39 : zeroL Try.prog 39 = some [.sl 0 0 (fun _ => .any) true] := by kernel_rfl
theorem zeroV39 : zeroV Try.prog 39 = some (.sl 0 0 (fun _ => .any) true) := by kernel_rfl
theorem ldk40 : ldk Try.prog 40 = some none := by kernel_rfl
theorem tsize40 : tsize Try.prog 40 = some 1 := by kernel_rfl
theorem sliceT40 : sliceT Try.prog 40 = true := by kernel_rfl
theorem elm40 : elm Try.prog 40 = some (4, 1, 1) := by kernel_rfl
theorem zeroL40 : zeroL Try.prog 40 = some [.sl 0 0 (fun _ => .any) true] := by kernel_rfl
theorem zeroV40 : zeroV Try.prog 40 = some (.sl 0 0 (fun _ => .any) true) := by kernel_rfl
theorem ldk42 : ldk Try.prog 42 = some (some 2) := by kernel_rfl
theorem tsize42 : tsize Try.prog 42 = some 2 := by kernel_rfl
theorem fld42_0 : fld Try.prog 42 0 = some (0, 1, none) := by kernel_rfl
theorem bpl42_0 : bldPl Try.prog 42 0 = some (0, 1) := by kernel_rfl
theorem fld42_1 : fld Try.prog 42 1 = some (1, 1, none) := by kernel_rfl
theorem bpl42_1 : bldPl Try.prog 42 1 = some (1, 1) := by kernel_rfl
theorem bok42 : bldOk Try.prog 42 = true := by kernel_rfl
theorem zeroL42 : zeroL Try.prog 42 = some [.bool false, .sl 0 0 (fun _ => .any) true] := by kernel_rfl
theorem zeroV42 : zeroV Try.prog 42 = some (.agg [.bool false, .sl 0 0 (fun _ => .any) true]) := by kernel_rfl
theorem ldk44 : ldk Try.prog 44 = some (some 4) := by kernel_rfl
theorem tsize44 : tsize Try.prog 44 = some 4 := by kernel_rfl
theorem fld44_0 : fld Try.prog 44 0 = some (0, 2, some 2) := by kernel_rfl
theorem bpl44_0 : bldPl Try.prog 44 0 = some (0, 2) := by kernel_rfl
theorem fld44_1 : fld Try.prog 44 1 = some (2, 2, some 2) := by kernel_rfl
theorem bpl44_1 : bldPl Try.prog 44 1 = some (2, 2) := by kernel_rfl
theorem bok44 : bldOk Try.prog 44 = true := by kernel_rfl
theorem zeroL44 : zeroL Try.prog 44 = some [.bool false, .sl 0 0 (fun _ => .any) true, .bool false, .sl 0 0 (fun _ => .any) true] := by kernel_rfl
theorem zeroV44 : zeroV Try.prog 44 = some (.agg [.bool false, .sl 0 0 (fun _ => .any) true, .bool false, .sl 0 0 (fun _ => .any) true]) := by kernel_rfl
theorem ldk46 : ldk Try.prog 46 = some (some 25) := by kernel_rfl
theorem tsize46 : tsize Try.prog 46 = some 25 := by kernel_rfl
theorem fld46_0 : fld Try.prog 46 0 = some (0, 1, none) := by kernel_rfl
theorem bpl46_0 : bldPl Try.prog 46 0 = some (0, 1) := by kernel_rfl
theorem fld46_1 : fld Try.prog 46 1 = some (1, 1, none) := by kernel_rfl
theorem bpl46_1 : bldPl Try.prog 46 1 = some (1, 1) := by kernel_rfl
theorem fld46_2 : fld Try.prog 46 2 = some (2, 1, none) := by kernel_rfl
theorem bpl46_2 : bldPl Try.prog 46 2 = some (2, 1) := by kernel_rfl
theorem fld46_3 : fld Try.prog 46 3 = some (3, 1, none) := by kernel_rfl
theorem bpl46_3 : bldPl Try.prog 46 3 = some (3, 1) := by kernel_rfl
theorem fld46_4 : fld Try.prog 46 4 = some (4, 1, none) := by kernel_rfl
theorem bpl46_4 : bldPl Try.prog 46 4 = some (4, 1) := by kernel_rfl
theorem fld46_5 : fld Try.prog 46 5 = some (5, 4, some 4) := by kernel_rfl
theorem bpl46_5 : bldPl Try.prog 46 5 = some (5, 4) := by kernel_rfl
theorem fld46_6 : fld Try.prog 46 6 = some (9, 4, some 4) := by kernel_rfl
theorem bpl46_6 : bldPl Try.prog 46 6 = some (9, 4) := by kernel_rfl
theorem fld46_7 : fld Try.prog 46 7 = some (13, 4, some 4) := by kernel_rfl
theorem bpl46_7 : bldPl Try.prog 46 7 = some (13, 4) := by kernel_rfl
theorem fld46_8 : fld Try.prog 46 8 = some (17, 4, some 4) := by kernel_rfl
theorem bpl46_8 : bldPl Try.prog 46 8 = some (17, 4) := by kernel_rfl
theorem fld46_9 : fld Try.prog 46 9 = some (21, 4, some 4) := by kernel_rfl
theorem bpl46_9 : bldPl Try.prog 46 9 = some (21, 4) := by kernel_rfl
theorem bok46 : bldOk Try.prog 46 = true := by kernel_rfl
theorem zeroL46 : zeroL Try.prog 46 = some [.int .i64 0, .int .i64 0, .sl 0 0 (fun _ => .any) true, .sl 0 0 (fun _ => .any) true, .sl 0 0 (fun _ => .any) true, .bool false, .sl 0 0 (fun _ => .any) true, .bool false, .sl 0 0 (fun _ => .any) true, .bool false, .sl 0 0 (fun _ => .any) true, .bool false, .sl 0 0 (fun _ => .any) true, .bool false, .sl 0 0 (fun _ => .any) true, .bool false, .sl 0 0 (fun _ => .any) true, .bool false, .sl 0 0 (fun _ => .any) true, .bool false, .sl 0 0 (fun _ => .any) true, .bool false, .sl 0 0 (fun _ => .any) true, .bool false, .sl 0 0 (fun _ => .any) true] := by kernel_rfl
theorem zeroV46 : zeroV Try.prog 46 = some (.agg [.int .i64 0, .int .i64 0, .sl 0 0 (fun _ => .any) true, .sl 0 0 (fun _ => .any) true, .sl 0 0 (fun _ => .any) true, .bool false, .sl 0 0 (fun _ => .any) true, .bool false, .sl 0 0 (fun _ => .any) true, .bool false, .sl 0 0 (fun _ => .any) true, .bool false, .sl 0 0 (fun _ => .any) true, .bool false, .sl 0 0 (fun _ => .any) true, .bool false, .sl 0 0 (fun _ => .any) true, .bool false, .sl 0 0 (fun _ => .any) true, .bool false, .sl 0 0 (fun _ => .any) true, .bool false, .sl 0 0 (fun _ => .any) true, .bool false, .sl 0 0 (fun _ => .any) true]) := by kernel_rfl
theorem ldk48 : ldk Try.prog 48 = some none := by kernel_rfl
theorem tsize48 : tsize Try.prog 48 = some 1 := by kernel_rfl
theorem ikd48 : ikd Try.prog 48 = some .i64 := by kernel_rfl
theorem zeroL48 : zeroL Try.prog 48 = some [.int .i64 0] := by kernel_rfl
theorem zeroV48 : zeroV Try.prog 48 = some (.int .i64 0) := by kernel_rfl
theorem ldk55 : ldk Try.prog 55 = some (some 2) := by kernel_rfl
theorem tsize55 : tsize Try.prog 55 = some 2 := by kernel_rfl
theorem fld55_0 : fld Try.prog 55 0 = some (0, 1, none) := by kernel_rfl
theorem bpl55_0 : bldPl Try.prog 55 0 = some (0, 1) := by kernel_rfl
theorem fld55_1 : fld Try.prog 55 1 = some (1, 1, none) := by kernel_rfl
theorem bpl55_1 : bldPl Try.prog 55 1 = some (1, 1) := by kernel_rfl
theorem bok55 : bldOk Try.prog 55 = true := by kernel_rfl
theorem seqT55 : seqT Try.prog 55 2 = true := by kernel_rfl
theorem zeroL55 : zeroL Try.prog 55 = some [.int .i64 0, .int .i64 0] := by kernel_rfl
theorem zeroV55 : zeroV Try.prog 55 = some (.agg [.int .i64 0, .int .i64 0]) := by kernel_rfl
theorem ldk65 : ldk Try.prog 65 = some none := by kernel_rfl
theorem tsize65 : tsize Try.prog 65 = some 1 := by kernel_rfl
theorem zeroL65 : zeroL Try.prog 65 = some [.nilfn] := by kernel_rfl
theorem zeroV65 : zeroV Try.prog 65 = some (.nilfn) := by kernel_rfl
theorem ldk72 : ldk Try.prog 72 = some (some 20) := by kernel_rfl
theorem tsize72 : tsize Try.prog 72 = some 20 := by kernel_rfl
theorem elm72 : elm Try.prog 72 = none := by kernel_rfl
theorem bpl72_0 : bldPl Try.prog 72 0 = some (0, 4) := by kernel_rfl
theorem bpl72_1 : bldPl Try.prog 72 1 = some (4, 4) := by kernel_rfl
theorem bpl72_2 : bldPl Try.prog 72 2 = some (8, 4) := by kernel_rfl
theorem bpl72_3 : bldPl Try.prog 72 3 = some (12, 4) := by kernel_rfl
theorem bpl72_4 : bldPl Try.prog 72 4 = some (16, 4) := by kernel_rfl
theorem bok72 : bldOk Try.prog 72 = true := by kernel_rfl
theorem arr72 : arr Try.prog 72 = some (5, 4, some 4) := by kernel_rfl
theorem zeroL72 : zeroL Try.prog 72 = some [.bool false, .sl 0 0 (fun _ => .any) true, .bool false, .sl 0 0 (fun _ => .any) true, .bool false, .sl 0 0 (fun _ => .any) true, .bool false, .sl 0 0 (fun _ => .any) true, .bool false, .sl 0 0 (fun _ => .any) true, .bool false, .sl 0 0 (fun _ => .any) true, .bool false, .sl 0 0 (fun _ => .any) true, .bool false, .sl 0 0 (fun _ => .any) true, .bool false, .sl 0 0 (fun _ => .any) true, .bool false, .sl 0 0 (fun _ => .any) true] := by kernel_rfl
theorem zeroV72 : zeroV Try.prog 72 = some (.agg [.bool false, .sl 0 0 (fun _ => .any) true, .bool false, .sl 0 0 (fun _ => .any) true, .bool false, .sl 0 0 (fun _ => .any) true, .bool false, .sl 0 0 (fun _ => .any) true, .bool false, .sl 0 0 (fun _ => .any) true, .bool false, .sl 0 0 (fun _ => .any) true, .bool false, .sl 0 0 (fun _ => .any) true, .bool false, .sl 0 0 (fun _ => .any) true, .bool false, .sl 0 0 (fun _ => .any) true, .bool false, .sl 0 0 (fun _ => .any) true]) := by kernel_rfl
theorem ldk75 : ldk Try.prog 75 = some none := by kernel_rfl
theorem tsize75 : tsize Try.prog 75 = some 1 := by kernel_rfl
theorem sliceT75 : sliceT Try.prog 75 = true := by kernel_rfl
theorem elm75 : elm Try.prog 75 = some (96, 8, 128) := by kernel_rfl
theorem zeroL75 : zeroL Try.prog 75 = some [.sl 0 0 (fun _ => .any) true] := by kernel_rfl
theorem zeroV75 : zeroV Try.prog 75 = some (.sl 0 0 (fun _ => .any) true) := by kernel_rfl
theorem ldk86 : ldk Try.prog 86 = some none := by kernel_rfl
theorem tsize86 : tsize Try.prog 86 = some 1 := by kernel_rfl
theorem zeroL86 : zeroL Try.prog 86 = some [.nilfn] := by kernel_rfl
theorem zeroV86 : zeroV Try.prog 86 = some (.nilfn) := by kernel_rfl
theorem ldk89 : ldk Try.prog 89 = some none := by kernel_rfl
theorem tsize89 : tsize Try.prog 89 = some 1 := by kernel_rfl
theorem ikd89 : ikd Try.prog 89 = some .u64 := by kernel_rfl
theorem zeroL89 : zeroL Try.prog 89 = some [.int .u64 0] := by kernel_rfl
theorem zeroV89 : zeroV Try.prog 89 = some (.int .u64 0) := by kernel_rfl
theorem ldk96 : ldk Try.prog 96 = some (some 8) := by kernel_rfl
theorem tsize96 : tsize Try.prog 96 = some 8 := by kernel_rfl
theorem fld96_0 : fld Try.prog 96 0 = some (0, 4, some 4) := by kernel_rfl
theorem bpl96_0 : bldPl Try.prog 96 0 = some (0, 4) := by kernel_rfl
theorem fld96_1 : fld Try.prog 96 1 = some (4, 4, some 4) := by kernel_rfl
theorem bpl96_1 : bldPl Try.prog 96 1 = some (4, 4) := by kernel_rfl
theorem bok96 : bldOk Try.prog 96 = true := by kernel_rfl
theorem zeroL96 : zeroL Try.prog 96 = some [.bool false, .sl 0 0 (fun _ => .any) true, .bool false, .sl 0 0 (fun _ => .any) true, .bool false, .sl 0 0 (fun _ => .any) true, .bool false, .sl 0 0 (fun _ => .any) true] := by kernel_rfl
theorem zeroV96 : zeroV Try.prog 96 = some (.agg [.bool false, .sl 0 0 (fun _ => .any) true, .bool false, .sl 0 0 (fun _ => .any) true, .bool false, .sl 0 0 (fun _ => .any) true, .bool false, .sl 0 0 (fun _ => .any) true]) := by kernel_rfl
theorem ldk97 : ldk Try.prog 97 = some none := by kernel_rfl
theorem tsize97 : tsize Try.prog 97 = some 1 := by kernel_rfl
theorem zeroL97 : zeroL Try.prog 97 = some [.nilfn] := by kernel_rfl
theorem zeroV97 : zeroV Try.prog 97 = some (.nilfn) := by kernel_rfl
theorem ldk112 : ldk Try.prog 112 = some none := by kernel_rfl
theorem tsize112 : tsize Try.prog 112 = some 1 := by kernel_rfl
theorem zeroL112 : zeroL Try.prog 112 = some [.nilfn] := by kernel_rfl
theorem zeroV112 : zeroV Try.prog 112 = some (.nilfn) := by kernel_rfl
theorem ldk113 : ldk Try.prog 113 = some none := by kernel_rfl
theorem tsize113 : tsize Try.prog 113 = some 1 := by kernel_rfl
theorem zeroL113 : zeroL Try.prog 113 = some [.nilfn] := by kernel_rfl
theorem zeroV113 : zeroV Try.prog 113 = some (.nilfn) := by kernel_rfl
theorem ldk119 : ldk Try.prog 119 = some none := by kernel_rfl
theorem tsize119 : tsize Try.prog 119 = some 1 := by kernel_rfl
theorem zeroL119 : zeroL Try.prog 119 = some [.nilfn] := by kernel_rfl
theorem zeroV119 : zeroV Try.prog 119 = some (.nilfn) := by kernel_rfl
theorem ldk120 : ldk Try.prog 120 = some none := by kernel_rfl
theorem tsize120 : tsize Try.prog 120 = some 1 := by kernel_rfl
theorem sliceT120 : sliceT Try.prog 120 = true := by kernel_rfl
theorem elm120 : elm Try.prog 120 = some (44, 4, 64) := by kernel_rfl
theorem zeroL120 : zeroL Try.prog 120 = some [.sl 0 0 (fun _ => .any) true] := by kernel_rfl
theorem zeroV120 : zeroV Try.prog 120 = some (.sl 0 0 (fun _ => .any) true) := by kernel_rfl
theorem mixed : Try.prog.follows .mixedOrders = true := by kernel_rfl
set_option linter.defProp false in
def wFacts := And.intro @ldk3 (And.intro @tsize3 (And.intro @ikd3 (And.intro @zeroL3 (And.intro @zeroV3 (And.intro @ldk4 (And.intro @tsize4 (And.intro @boolT4 (And.intro @zeroL4 (And.intro @zeroV4 (And.intro @ldk17 (And.intro @tsize17 (And.intro @ptrT17 (And.intro @zeroL17 (And.intro @zeroV17 (And.intro @ldk18 (And.intro @tsize18 (And.intro @fld18_0 (And.intro @bpl18_0 (And.intro @bok18 (And.intro @zeroL18 (And.intro @zeroV18 (And.intro @ldk22 (And.intro @tsize22 (And.intro @sliceT22 (And.intro @elm22 (And.intro @zeroL22 (And.intro @zeroV22 (And.intro @ldk23 (And.intro @tsize23 (And.intro @sliceT23 (And.intro @elm23 (And.intro @zeroL23 (And.intro @zeroV23 (And.intro @ldk24 (And.intro @tsize24 (And.intro @sliceT24 (And.intro @elm24 (And.intro @zeroL24 (And.intro @zeroV24 (And.intro @ldk27 (And.intro @tsize27 (And.intro @sliceT27 (And.intro @elm27 (And.intro @zeroL27 (And.intro @zeroV27 (And.intro @ldk30 (And.intro @tsize30 (And.intro @elm30 (And.intro @bpl30_0 (And.intro @bpl30_1 (And.intro @bok30 (And.intro @arr30 (And.intro @zeroL30 (And.intro @zeroV30 (And.intro @ldk33 (And.intro @tsize33 (And.intro @mapT33 (And.intro @zeroL33 (And.intro @zeroV33 (And.intro @ldk36 (And.intro @tsize36 (And.intro @fld36_0 (And.intro @bpl36_0 (And.intro @fld36_1 (And.intro @bpl36_1 (And.intro @fld36_2 (And.intro @bpl36_2 (And.intro @bok36 (And.intro @seqT36 (And.intro @zeroL36 (And.intro @zeroV36 (And.intro @ldk37 (And.intro @tsize37 (And.intro @zeroL37 (And.intro @zeroV37 (And.intro @ldk38 (And.intro @tsize38 (And.intro @fld38_0 (And.intro @bpl38_0 (And.intro @fld38_1 (And.intro @bpl38_1 (And.intro @fld38_2 (And.intro @bpl38_2 (And.intro @bok38 (And.intro @seqT38 (And.intro @zeroL38 (And.intro @zeroV38 (And.intro @ldk39 (And.intro @tsize39 (And.intro @sliceT39 (And.intro @elm39 (And.intro @zeroL39 (And.intro @zeroV39 (And.intro @ldk40 (And.intro @tsize40 (And.intro @sliceT40 (And.intro @elm40 (And.intro @zeroL40 (And.intro @zeroV40 (And.intro @ldk42 (And.intro @tsize42 (And.intro @fld42_0 (And.intro @bpl42_0 (And.intro @fld42_1 (And.intro @bpl42_1 (And.intro @bok42 (And.intro @zeroL42 (And.intro @zeroV42 (And.intro @ldk44 (And.intro @tsize44 (And.intro @fld44_0 (And.intro @bpl44_0 (And.intro @fld44_1 (And.intro @bpl44_1 (And.intro @bok44 (And.intro @zeroL44 (And.intro @zeroV44 (And.intro @ldk46 (And.intro @tsize46 (And.intro @fld46_0 (And.intro @bpl46_0 (And.intro @fld46_1 (And.intro @bpl46_1 (And.intro @fld46_2 (And.intro @bpl46_2 (And.intro @fld46_3 (And.intro @bpl46_3 (And.intro @fld46_4 (And.intro @bpl46_4 (And.intro @fld46_5 (And.intro @bpl46_5 (And.intro @fld46_6 (And.intro @bpl46_6 (And.intro @fld46_7 (And.intro @bpl46_7 (And.intro @fld46_8 (And.intro @bpl46_8 (And.intro @fld46_9 (And.intro @bpl46_9 (And.intro @bok46 (And.intro @zeroL46 (And.intro @zeroV46 (And.intro @ldk48 (And.intro @tsize48 (And.intro @ikd48 (And.intro @zeroL48 (And.intro @zeroV48 (And.intro @ldk55 (And.intro @tsize55 (And.intro @fld55_0 (And.intro @bpl55_0 (And.intro @fld55_1 (And.intro @bpl55_1 (And.intro @bok55 (And.intro @seqT55 (And.intro @zeroL55 (And.intro @zeroV55 (And.intro @ldk65 (And.intro @tsize65 (And.intro @zeroL65 (And.intro @zeroV65 (And.intro @ldk72 (And.intro @tsize72 (And.intro @elm72 (And.intro @bpl72_0 (And.intro @bpl72_1 (And.intro @bpl72_2 (And.intro @bpl72_3 (And.intro @bpl72_4 (And.intro @bok72 (And.intro @arr72 (And.intro @zeroL72 (And.intro @zeroV72 (And.intro @ldk75 (And.intro @tsize75 (And.intro @sliceT75 (And.intro @elm75 (And.intro @zeroL75 (And.intro @zeroV75 (And.intro @ldk86 (And.intro @tsize86 (And.intro @zeroL86 (And.intro @zeroV86 (And.intro @ldk89 (And.intro @tsize89 (And.intro @ikd89 (And.intro @zeroL89 (And.intro @zeroV89 (And.intro @ldk96 (And.intro @tsize96 (And.intro @fld96_0 (And.intro @bpl96_0 (And.intro @fld96_1 (And.intro @bpl96_1 (And.intro @bok96 (And.intro @zeroL96 (And.intro @zeroV96 (And.intro @ldk97 (And.intro @tsize97 (And.intro @zeroL97 (And.intro @zeroV97 (And.intro @ldk112 (And.intro @tsize112 (And.intro @zeroL112 (And.intro @zeroV112 (And.intro @ldk113 (And.intro @tsize113 (And.intro @zeroL113 (And.intro @zeroV113 (And.intro @ldk119 (And.intro @tsize119 (And.intro @zeroL119 (And.intro @zeroV119 (And.intro @ldk120 (And.intro @tsize120 (And.intro @sliceT120 (And.intro @elm120 (And.intro @zeroL120 (@zeroV120)))))))))))))))))))))))))))))))))))))))))))))))))))))))))))))))))))))))))))))))))))))))))))))))))))))))))))))))))))))))))))))))))))))))))))))))))))))))))))))))))))))))))))))))))))))))))))))))))))))))))))))))))))))))))))
end Go.Ab.N

namespace Go.Ab.N
open Go Go.RowKit Go.Proofs
noncomputable section
set_option maxRecDepth 10000
set_option maxHeartbeats 2000000
set_option linter.unusedSimpArgs false
set_option linter.unusedVariables false
open Classical

def ofA (neg : Bool) (l : List Int) : AV := .agg [.bool (neg && decide (trim l l.length ≠ 0)), ints (l.take (trim l l.length))]
theorem settled_ofA (neg : Bool) (l : List Int) : Settled (ofA neg l) := settled_agg (by simp [settled_ints, settled_bool])
theorem of_fn (neg : Bool) (d : List Int) (hl : d.length < 4611686018427387904) : Fn Try.prog 53 [.bool neg, ints d] (ofA neg d) := by
  refine Fn.intro (fn := Try.f53) Try.call53 Try.func53 rfl mixed 6 [] [] [] (by kernel_rfl) (Nat.le_of_ble_eq_true rfl) (by simp [settled_ints, settled_I, settled_fn0, settled_intss, settled_bool, settled_nil, settled_zA, settled_ofA, settled_int]) (vc_soundN 1000 ?_); simp (config := { maxSteps := 2000000 }) only [AS.start, ↓wPre, wPost, wFast, wCore, beq_self_eq_true, ite_true, ite_false, false_implies, true_implies, implies_true, eq_self, ne_eq, ↓reduceIte, reduceIte, Nat.reducePow, Nat.reduceLT, Nat.reduceLeDiff, Nat.reduceEqDiff, Nat.reduceAdd, Nat.reduceMul, Nat.reduceSub, Nat.reduceBEq, Nat.reduceDiv, Nat.reduceMod, reduceCtorEq, sl1, wFacts, zA, nb_tf, nb_ft, nb_tt, nb_ff]
  refine run_loop (fun n : Nat => ⟨6, [], [.bool neg, ints d, .any, .any, .ref 0 0 0, I n], [], [.row 0 2 (ofL [.bool false, .sl 0 0 (fun _ => .any) true])]⟩) (fun n => n ≤ d.length ∧ trim d d.length = trim d n) (fun n => n) d.length ⟨by omega, rfl⟩
    (sub_mk rfl (by simp [zA, nb_tf, nb_ft, nb_tt, nb_ff, subL, ints, intss, bools, sl1, I]) (by simp [subT]) rfl) ?_
  rintro n ⟨hn, ht⟩ next
  cases n with
  | zero =>
    refine vc_soundN 1000 ?_
    simp only [Int.lt_irrefl, ↓wPre, wPost, wFast, wCore, beq_self_eq_true, ite_true, ite_false, false_implies, true_implies, implies_true, eq_self, ne_eq, ↓reduceIte, reduceIte, Nat.reducePow, Nat.reduceLT, Nat.reduceLeDiff, Nat.reduceEqDiff, Nat.reduceAdd, Nat.reduceMul, Nat.reduceSub, Nat.reduceBEq, Nat.reduceDiv, Nat.reduceMod, reduceCtorEq, sl1, wFacts, zA, nb_tf, nb_ft, nb_tt, nb_ff]
    refine retCellP (v := .agg [.bool false, .sl 0 0 (fun _ => .any) false]) rfl (by simp [AS.get, aload, ldk42, rd, cellsFrom, ofL, oif_true]) ?_
    have e : ofA neg d = .agg [.bool false, ints []] := by unfold ofA; rw [ht]; simp [trim]
    rw [e]
    exact sees_agg ⟨sees_of (settled_bool _) rfl, sees_of_weak (settled_ints _) (weak_emp _ _), trivial⟩
  | succ n =>
    have e0 : (0 < ((n + 1 : Nat) : Int)) = True := eq_true (by omega)
    have e1 : (((n + 1 : Nat) : Int) = 0) = False := eq_false (by omega)
    have w1 : IntKind.i64.wrap (((n + 1 : Nat) : Int) - 1) = (n : Int) := by rw [IntKind.wrap_i64]; omega
    have e2 : (n < d.length) = True := eq_true (by omega)
    refine vc_soundN 1000 ?_
    simp only [e0, e1, e2, w1, ↓wPre, wPost, wFast, wCore, beq_self_eq_true, ite_true, ite_false, false_implies, true_implies, implies_true, eq_self, ne_eq, ↓reduceIte, reduceIte, Nat.reducePow, Nat.reduceLT, Nat.reduceLeDiff, Nat.reduceEqDiff, Nat.reduceAdd, Nat.reduceMul, Nat.reduceSub, Nat.reduceBEq, Nat.reduceDiv, Nat.reduceMod, reduceCtorEq, sl1, wFacts, zA, nb_tf, nb_ft, nb_tt, nb_ff]
    refine ⟨fun h0 => next n _ ⟨by omega, by rw [ht]; simp only [trim]; rw [if_pos h0]⟩ (by omega) (sub_mk rfl (by simp [zA, nb_tf, nb_ft, nb_tt, nb_ff, subL, ints, intss, bools, sl1, I]) (by simp [subT]) rfl), fun h0 => ⟨by omega, ?_⟩⟩
    have ht2 : trim d d.length = n + 1 := by rw [ht]; simp only [trim]; rw [if_neg h0]
    have e : ofA neg d = .agg [.bool neg, ints (d.take (n + 1))] := by unfold ofA; rw [ht2]; simp
    have hlen : (d.take (n + 1)).length = n + 1 := by rw [List.length_take]; omega
    rw [e]
    refine retCellP (v := .agg [.bool neg, .sl (n + 1) (n + 1) (fun j => .int .i64 (d.getD j 0)) false]) rfl ?_ ?_
    · have m1 : min (n + 1) d.length = n + 1 := by omega
      simp [AS.get, aload, ldk42, rd, cellsFrom, ofL, oif_true, m1]
    · refine sees_agg ⟨sees_of (settled_bool _) rfl, sees_of_weak (settled_ints _) (weak_cut _ hlen.symm (by omega) fun j hj => ?_), trivial⟩
      rw [hlen] at hj
      rw [getD_take d 0 j (n + 1) hj]; rfl
end
end Go.Ab.N

namespace Go.Ab.N
open Go Go.RowKit Go.Proofs
noncomputable section
set_option maxRecDepth 10000
set_option maxHeartbeats 2000000
set_option linter.unusedSimpArgs false
set_option linter.unusedVariables false
open Classical

theorem zA_sgn (neg : Bool) {u : Int} (h : 0 ≤ u) : zA (sgn neg u) = .agg [.bool (neg && decide (u ≠ 0)), ints (digs u.toNat)] := by
  unfold zA
  have e1 : (sgn neg u).natAbs = u.toNat := by unfold sgn; split <;> omega
  rw [e1]
  congr 3
  unfold sgn
  have h0' : ¬ u < 0 := by omega
  cases neg
  · simp [h0']
  · have : -u < 0 ↔ ¬ u = 0 := by omega
    simp only [if_true, Bool.true_and, decide_eq_decide, ne_eq]
    exact this
def U (n : Int) : AV := .int .u64 n
theorem settled_U (n : Int) : Settled (AV.int .u64 n) := settled_int _ _
theorem unsigned_fn (neg : Bool) (u : Int) (h0 : 0 ≤ u) (h1 : u < 18446744073709551616) : Fn Try.prog 55 [.bool neg, .int .u64 u] (zA (sgn neg u)) := by
  obtain ⟨R, hR⟩ : ∃ R, R = zA (sgn neg u) := ⟨_, rfl⟩
  have eR := hR.trans (zA_sgn neg h0)
  have sR : Settled R := hR ▸ settled_zA _
  have b1 : u ≠ 0 → (neg && decide (u ≠ 0)) = neg := fun h => by simp [h]
  have w1 : IntKind.i64.wrap (u.tmod 1000000000) = u % 1000000000 := by rw [IntKind.wrap_i64, Int.tmod_eq_emod_of_nonneg h0]; omega
  have w2 : IntKind.u64.wrap (u.tdiv 1000000000) = u / 1000000000 := by rw [IntKind.wrap_u64, Int.tdiv_eq_ediv_of_nonneg h0]; omega
  have h2 : 0 ≤ u / 1000000000 := by omega
  have w3 : IntKind.i64.wrap (u / 1000000000) = u / 1000000000 := by rw [IntKind.wrap_i64]; omega
  have w4 : IntKind.i64.wrap ((u / 1000000000).tmod 1000000000) = u / 1000000000 % 1000000000 := by rw [IntKind.wrap_i64, Int.tmod_eq_emod_of_nonneg h2]; omega
  have w5 : IntKind.u64.wrap ((u / 1000000000).tdiv 1000000000) = u / 1000000000 / 1000000000 := by rw [IntKind.wrap_u64, Int.tdiv_eq_ediv_of_nonneg h2]; omega
  have w6 : IntKind.i64.wrap (u / 1000000000 / 1000000000) = u / 1000000000 / 1000000000 := by rw [IntKind.wrap_i64]; omega
  rw [← hR]
  refine Fn.intro (fn := Try.f55) Try.call55 Try.func55 rfl mixed 6 [] [] [] (by kernel_rfl) (Nat.le_of_ble_eq_true rfl) (by simp [settled_ints, settled_I, settled_fn0, settled_intss, settled_bool, settled_nil, settled_zA, settled_ofA, settled_int]) (vc_soundN 1000 ?_); simp (config := { maxSteps := 2000000 }) only [AS.start, ↓wPre, wPost, wFast, wCore, beq_self_eq_true, ite_true, ite_false, false_implies, true_implies, implies_true, eq_self, ne_eq, ↓reduceIte, reduceIte, Nat.reducePow, Nat.reduceLT, Nat.reduceLeDiff, Nat.reduceEqDiff, Nat.reduceAdd, Nat.reduceMul, Nat.reduceSub, Nat.reduceBEq, Nat.reduceDiv, Nat.reduceMod, reduceCtorEq, sl1, wFacts, zA, nb_tf, nb_ft, nb_tt, nb_ff]
  simp only [w1, w2, w3, w4, w5, w6]
  refine ⟨fun a => ?_, fun a0 => ⟨fun a1 => ?_, fun a1 => ⟨fun a2 => ⟨by omega, by omega, ?_⟩, fun a2 => ⟨by omega, by omega, by omega, by omega, by omega, ?_⟩⟩⟩⟩
  · rw [a, show (neg && decide ((0 : Int) ≠ 0)) = false by simp, show (0 : Int).toNat = 0 from rfl, digs_zero] at eR
    exact retRefE rfl ldk42 rfl rfl rfl eR sR ⟨Weak.rfl' _, weak_emp _ _, trivial⟩
  · have w0 : IntKind.i64.wrap u = u := by rw [IntKind.wrap_i64]; omega
    rw [b1 a0, digs_one (by omega) (by omega), Int.toNat_of_nonneg h0] at eR
    rw [w0]
    exact retRefE rfl ldk42 rfl rfl rfl eR sR ⟨Weak.rfl' _, weak_litE rfl rfl, trivial⟩
  · rw [b1 a0, digs_two (by omega) (by omega)] at eR
    have e1 : ((u.toNat % 1000000000 : Nat) : Int) = u % 1000000000 := by omega
    have e2 : ((u.toNat / 1000000000 : Nat) : Int) = u / 1000000000 := by omega
    rw [e1, e2] at eR
    exact retRefE rfl ldk42 rfl rfl rfl eR sR ⟨Weak.rfl' _, weak_litE rfl rfl, trivial⟩
  · rw [b1 a0, digs_three (by omega) (by omega)] at eR
    have e1 : ((u.toNat % 1000000000 : Nat) : Int) = u % 1000000000 := by omega
    have e2 : ((u.toNat / 1000000000 % 1000000000 : Nat) : Int) = u / 1000000000 % 1000000000 := by omega
    have e3 : ((u.toNat / 1000000000 / 1000000000 : Nat) : Int) = u / 1000000000 / 1000000000 := by omega
    rw [e1, e2, e3] at eR
    exact retRefE rfl ldk42 rfl rfl rfl eR sR ⟨Weak.rfl' _, weak_litE rfl rfl, trivial⟩
theorem neg_fn (z : Int) : Fn Try.prog 78 [zA z] (zA (-z)) := by
  have e : (-z).natAbs = z.natAbs := by omega
  have e0 : z.natAbs = 0 ↔ z = 0 := by omega
  have e1 : (digs z.natAbs).length = 0 ↔ z = 0 := digs_len_zero.trans e0
  refine Fn.intro (fn := Try.f78) Try.call78 Try.func78 rfl mixed 3 [] [] [] (by kernel_rfl) (Nat.le_of_ble_eq_true rfl) (by simp [settled_ints, settled_I, settled_fn0, settled_intss, settled_bool, settled_nil, settled_zA, settled_ofA, settled_int]) (vc_soundN 1000 ?_); simp (config := { maxSteps := 2000000 }) only [AS.start, ↓wPre, wPost, wFast, wCore, beq_self_eq_true, ite_true, ite_false, false_implies, true_implies, implies_true, eq_self, ne_eq, ↓reduceIte, reduceIte, Nat.reducePow, Nat.reduceLT, Nat.reduceLeDiff, Nat.reduceEqDiff, Nat.reduceAdd, Nat.reduceMul, Nat.reduceSub, Nat.reduceBEq, Nat.reduceDiv, Nat.reduceMod, reduceCtorEq, sl1, wFacts, zA, nb_tf, nb_ft, nb_tt, nb_ff]
  refine ⟨fun h => retRefE rfl ldk42 rfl rfl rfl rfl (settled_zA _) ?_, fun h => retRefE rfl ldk42 rfl rfl rfl rfl (settled_zA _) ?_⟩
  · rw [e]
    have : decide (-z < 0) = decide (0 < ((digs z.natAbs).length : Int)) := by rw [decide_eq_decide]; omega
    rw [this]
    exact ⟨Weak.rfl' _, Weak.rfl' _, trivial⟩
  · rw [e, show decide (-z < 0) = false from decide_eq_false (by omega)]
    exact ⟨Weak.rfl' _, Weak.rfl' _, trivial⟩
theorem sign_fn (z : Int) : Fn Try.prog 30 [zA z] (I z.sign) := by
  have e0 : z.natAbs = 0 ↔ z = 0 := by omega
  have e1 : (digs z.natAbs).length = 0 ↔ z = 0 := digs_len_zero.trans e0
  refine Fn.intro (fn := Try.f30) Try.call30 Try.func30 rfl mixed 4 [] [] [] (by kernel_rfl) (Nat.le_of_ble_eq_true rfl) (by simp [settled_ints, settled_I, settled_fn0, settled_intss, settled_bool, settled_nil, settled_zA, settled_ofA, settled_int]) (vc_soundN 1000 ?_); simp (config := { maxSteps := 2000000 }) only [AS.start, ↓wPre, wPost, wFast, wCore, beq_self_eq_true, ite_true, ite_false, false_implies, true_implies, implies_true, eq_self, ne_eq, ↓reduceIte, reduceIte, Nat.reducePow, Nat.reduceLT, Nat.reduceLeDiff, Nat.reduceEqDiff, Nat.reduceAdd, Nat.reduceMul, Nat.reduceSub, Nat.reduceBEq, Nat.reduceDiv, Nat.reduceMod, reduceCtorEq, sl1, wFacts, zA, nb_tf, nb_ft, nb_tt, nb_ff]
  refine ⟨fun h => ret1E rfl rfl (settled_I _) ?_, fun h => ⟨fun h2 => ret1E rfl rfl (settled_I _) ?_, fun h2 => ret1E rfl rfl (settled_I _) ?_⟩⟩
  · rw [Int.sign_eq_neg_one_of_neg h]; rfl
  · rw [e1.1 (by omega)]; rfl
  · rw [Int.sign_eq_one_of_pos (by omega)]; rfl
theorem two_fn (d : List Int) (h : dig d) : Fn Try.prog 54 [ints d] (.tup [I (if d.length ≤ 2 then val d else 0), .bool (decide (d.length ≤ 2))]) := by
  have k2 : ¬ d.length ≤ 2 → I 0 = I (if d.length ≤ 2 then val d else 0) ∧ AV.bool false = .bool (decide (d.length ≤ 2)) := fun h => by simp [h]
  have k1 : d.length ≤ 2 → ∀ x, x = val d → I x = I (if d.length ≤ 2 then val d else 0) ∧ AV.bool true = .bool (decide (d.length ≤ 2)) := fun h x hx => by simp [h, hx]
  refine Fn.intro (fn := Try.f54) Try.call54 Try.func54 rfl mixed 4 [5] [] [] (by kernel_rfl) (Nat.le_of_ble_eq_true rfl) (by simp [settled_ints, settled_I, settled_fn0, settled_intss, settled_bool, settled_nil, settled_zA, settled_ofA, settled_int]) (vc_soundN 1000 ?_); simp (config := { maxSteps := 2000000 }) only [AS.start, ↓wPre, wPost, wFast, wCore, beq_self_eq_true, ite_true, ite_false, false_implies, true_implies, implies_true, eq_self, ne_eq, ↓reduceIte, reduceIte, Nat.reducePow, Nat.reduceLT, Nat.reduceLeDiff, Nat.reduceEqDiff, Nat.reduceAdd, Nat.reduceMul, Nat.reduceSub, Nat.reduceBEq, Nat.reduceDiv, Nat.reduceMod, reduceCtorEq, sl1, wFacts, zA, nb_tf, nb_ft, nb_tt, nb_ff]
  have fin : ∀ {s : AS} {x : Int}, s.get 2 = I x → s.get 3 = .bool true → d.length ≤ 2 → x = val d → RetOk (envP Try.prog Try.f54 [] [] (.tup [I (if d.length ≤ 2 then val d else 0), .bool (decide (d.length ≤ 2))])) s := fun h1 h2 hl hx =>
    ret2E rfl h1 h2 (settled_I _) (settled_bool _) (k1 hl _ hx).1 (k1 hl _ hx).2
  refine ⟨fun a => fin rfl rfl (by omega) ?_, fun a0 => ⟨fun a => ⟨by omega, by omega, fin rfl rfl (by omega) ?_⟩, fun a1 => ⟨fun a => ⟨⟨by omega, by omega⟩, by omega, by omega, by omega, fin rfl rfl (by omega) ?_⟩, fun a2 => ret2E rfl rfl rfl (settled_I _) (settled_bool _) (k2 (by omega)).1 (k2 (by omega)).2⟩⟩⟩
  · obtain rfl : d = [] := List.length_eq_zero_iff.1 (by omega)
    rfl
  · obtain ⟨x, rfl⟩ := List.length_eq_one_iff.1 (show d.length = 1 by omega)
    simp [val]
  · obtain ⟨x, y, rfl⟩ : ∃ x y, d = [x, y] := by
      match d, a with
      | [x, y], _ => exact ⟨x, y, rfl⟩
      | [], h => exact absurd h (by simp)
      | [_], h => exact absurd h (by simp)
      | _ :: _ :: _ :: _, h => exact absurd h (by simp; omega)
    have h1 := h x (by simp)
    have h2 := h y (by simp)
    unfold digt at h1 h2
    simp only [List.getD_cons_zero, List.getD_cons_succ, val, IntKind.wrap_i64]
    omega
theorem isnan_fn (a : Int) : Fn Try.prog 89 [I a] (.bool false) := by
  refine Fn.intro (fn := Try.f89) Try.call89 Try.func89 rfl mixed 3 [] [] [] (by kernel_rfl) (Nat.le_of_ble_eq_true rfl) (by simp [settled_ints, settled_I, settled_fn0, settled_intss, settled_bool, settled_nil, settled_zA, settled_ofA, settled_int]) (vc_soundN 1000 ?_); simp (config := { maxSteps := 2000000 }) only [AS.start, ↓wPre, wPost, wFast, wCore, beq_self_eq_true, ite_true, ite_false, false_implies, true_implies, implies_true, eq_self, ne_eq, ↓reduceIte, reduceIte, Nat.reducePow, Nat.reduceLT, Nat.reduceLeDiff, Nat.reduceEqDiff, Nat.reduceAdd, Nat.reduceMul, Nat.reduceSub, Nat.reduceBEq, Nat.reduceDiv, Nat.reduceMod, reduceCtorEq, sl1, wFacts, zA, nb_tf, nb_ft, nb_tt, nb_ff]
  exact ret1E rfl rfl (settled_bool _) rfl
theorem ccmp_fn (a b : Int) : Fn Try.prog 77 [I a, I b] (I (a - b).sign) := by
  refine Fn.intro (fn := Try.f77) Try.call77 Try.func77 rfl mixed 7 [] [] [] (by kernel_rfl) (Nat.le_of_ble_eq_true rfl) (by simp [settled_ints, settled_I, settled_fn0, settled_intss, settled_bool, settled_nil, settled_zA, settled_ofA, settled_int]) (vc_soundN 1000 ?_); simp (config := { maxSteps := 2000000 }) only [AS.start, ↓wPre, wPost, wFast, wCore, beq_self_eq_true, ite_true, ite_false, false_implies, true_implies, implies_true, eq_self, ne_eq, ↓reduceIte, reduceIte, Nat.reducePow, Nat.reduceLT, Nat.reduceLeDiff, Nat.reduceEqDiff, Nat.reduceAdd, Nat.reduceMul, Nat.reduceSub, Nat.reduceBEq, Nat.reduceDiv, Nat.reduceMod, reduceCtorEq, sl1, wFacts, zA, nb_tf, nb_ft, nb_tt, nb_ff]
  refine call_fn (isnan_fn a) rfl ?_
  simp only [↓wPre, wPost, wFast, wCore, beq_self_eq_true, ite_true, ite_false, false_implies, true_implies, implies_true, eq_self, ne_eq, ↓reduceIte, reduceIte, Nat.reducePow, Nat.reduceLT, Nat.reduceLeDiff, Nat.reduceEqDiff, Nat.reduceAdd, Nat.reduceMul, Nat.reduceSub, Nat.reduceBEq, Nat.reduceDiv, Nat.reduceMod, reduceCtorEq, sl1, wFacts, zA, nb_tf, nb_ft, nb_tt, nb_ff]
  refine call_fn (isnan_fn b) rfl ?_
  simp only [↓wPre, wPost, wFast, wCore, beq_self_eq_true, ite_true, ite_false, false_implies, true_implies, implies_true, eq_self, ne_eq, ↓reduceIte, reduceIte, Nat.reducePow, Nat.reduceLT, Nat.reduceLeDiff, Nat.reduceEqDiff, Nat.reduceAdd, Nat.reduceMul, Nat.reduceSub, Nat.reduceBEq, Nat.reduceDiv, Nat.reduceMod, reduceCtorEq, sl1, wFacts, zA, nb_tf, nb_ft, nb_tt, nb_ff]
  refine ⟨fun h => ret1E rfl rfl (settled_I _) ?_, fun h => ⟨fun h2 => ret1E rfl rfl (settled_I _) ?_, fun h2 => ret1E rfl rfl (settled_I _) ?_⟩⟩
  · rw [Int.sign_eq_neg_one_of_neg (by omega)]; rfl
  · rw [Int.sign_eq_one_of_pos (by omega)]; rfl
  · rw [show a - b = 0 by omega]; rfl
end
end Go.Ab.N

namespace Go.Ab.N
open Go Go.RowKit Go.Proofs
noncomputable section
set_option maxRecDepth 10000
set_option maxHeartbeats 2000000
set_option linter.unusedSimpArgs false
set_option linter.unusedVariables false
open Classical

theorem cmp_at {a b : List Int} (ha : dig a) (hb : dig b) (hl : a.length = b.length) {i : Nat} (hi : i < a.length) (he : a.drop (i + 1) = b.drop (i + 1)) (hne : a.getD i 0 ≠ b.getD i 0) :
    (val a - val b).sign = (a.getD i 0 - b.getD i 0).sign := by
  rw [val_split a i (by omega), val_split b i (by omega), val_drop a i hi, val_drop b i (by omega), he]
  have h1 := val_nonneg (dig_take ha i)
  have h2 := val_nonneg (dig_take hb i)
  have h3 := val_lt (dig_take ha i)
  have h4 := val_lt (dig_take hb i)
  have e1 : (a.take i).length = i := by rw [List.length_take]; omega
  have e2 : (b.take i).length = i := by rw [List.length_take]; omega
  rw [e1] at h3
  rw [e2] at h4
  generalize val (a.take i) = p at *
  generalize val (b.take i) = q at *
  generalize val (b.drop (i + 1)) = r at *
  generalize a.getD i 0 = x at *
  generalize b.getD i 0 = y at *
  have hp := pw_pos i
  generalize pw i = P at *
  have e : p + P * (x + 1000000000 * r) - (q + P * (y + 1000000000 * r)) = (p - q) + P * (x - y) := by grind
  rw [e]
  rcases Int.lt_or_gt_of_ne hne with h | h
  · rw [Int.sign_eq_neg_one_of_neg (show x - y < 0 by omega)]
    have : P * (x - y) ≤ P * (-1) := Int.mul_le_mul_of_nonneg_left (by omega) (by omega)
    exact Int.sign_eq_neg_one_of_neg (by omega)
  · rw [Int.sign_eq_one_of_pos (show 0 < x - y by omega)]
    have : P * 1 ≤ P * (x - y) := Int.mul_le_mul_of_nonneg_left (by omega) (by omega)
    exact Int.sign_eq_one_of_pos (by omega)
theorem canon_lt {a b : List Int} (ha : canon a) (hb : canon b) (h : a.length < b.length) : val a < val b := by
  have h1 := val_lt ha.1
  have hne : b ≠ [] := fun e => by rw [e] at h; simp at h
  have h2 := canon_ge hb hne
  have h3 := pw_mono (show a.length ≤ b.length - 1 by omega)
  omega
theorem drop_eq_succ {a b : List Int} (hl : a.length = b.length) {i : Nat} (hi : i < a.length) (he : a.drop (i + 1) = b.drop (i + 1)) (h : a.getD i 0 = b.getD i 0) : a.drop i = b.drop i := by
  have hi2 : i < b.length := by omega
  rw [List.drop_eq_getElem_cons hi, List.drop_eq_getElem_cons hi2, he]
  rw [List.getD_eq_getElem?_getD, List.getElem?_eq_getElem hi, List.getD_eq_getElem?_getD, List.getElem?_eq_getElem hi2] at h
  simp only [Option.getD_some] at h
  rw [h]
theorem compare_fn (a b : List Int) (ha : canon a) (hb : canon b) (la : a.length < 4611686018427387904) : Fn Try.prog 58 [ints a, ints b] (I (val a - val b).sign) := by
  have hc : a.length ≠ b.length → Fn Try.prog 77 [I a.length, I b.length] (I (val a - val b).sign) := fun h => by
    have e : ((a.length : Int) - b.length).sign = (val a - val b).sign := by
      rcases Nat.lt_or_gt_of_ne h with h' | h'
      · have := canon_lt ha hb h'
        rw [Int.sign_eq_neg_one_of_neg (by omega), Int.sign_eq_neg_one_of_neg (by omega)]
      · have := canon_lt hb ha h'
        rw [Int.sign_eq_one_of_pos (by omega), Int.sign_eq_one_of_pos (by omega)]
    rw [← e]; exact ccmp_fn _ _
  refine Fn.intro (fn := Try.f58) Try.call58 Try.func58 rfl mixed 6 [] [] [] (by kernel_rfl) (Nat.le_of_ble_eq_true rfl) (by simp [settled_ints, settled_I, settled_fn0, settled_intss, settled_bool, settled_nil, settled_zA, settled_ofA, settled_int]) (vc_soundN 1000 ?_); simp (config := { maxSteps := 2000000 }) only [AS.start, ↓wPre, wPost, wFast, wCore, beq_self_eq_true, ite_true, ite_false, false_implies, true_implies, implies_true, eq_self, ne_eq, ↓reduceIte, reduceIte, Nat.reducePow, Nat.reduceLT, Nat.reduceLeDiff, Nat.reduceEqDiff, Nat.reduceAdd, Nat.reduceMul, Nat.reduceSub, Nat.reduceBEq, Nat.reduceDiv, Nat.reduceMod, reduceCtorEq, sl1, wFacts, zA, nb_tf, nb_ft, nb_tt, nb_ff]
  refine ⟨fun h => call_fn (hc h) rfl ?_, fun hl => ?_⟩
  · simp only [↓wPre, wPost, wFast, wCore, beq_self_eq_true, ite_true, ite_false, false_implies, true_implies, implies_true, eq_self, ne_eq, ↓reduceIte, reduceIte, Nat.reducePow, Nat.reduceLT, Nat.reduceLeDiff, Nat.reduceEqDiff, Nat.reduceAdd, Nat.reduceMul, Nat.reduceSub, Nat.reduceBEq, Nat.reduceDiv, Nat.reduceMod, reduceCtorEq, sl1, wFacts, zA, nb_tf, nb_ft, nb_tt, nb_ff]
    exact ret1E rfl rfl (settled_I _) rfl
  refine run_loop (fun k : Nat => ⟨6, [], [ints a, ints b, .any, .any, I 0, I ((k : Int) - 1)], [], []⟩) (fun k => k ≤ a.length ∧ a.drop k = b.drop k) (fun k => k) a.length ⟨by omega, by rw [List.drop_length, hl, List.drop_length]⟩
    ?_ ?_
  · have w0 : IntKind.i64.wrap ((a.length : Int) - 1) = (a.length : Int) - 1 := by rw [IntKind.wrap_i64]; omega
    rw [w0]
    exact (sub_mk rfl (by simp [zA, nb_tf, nb_ft, nb_tt, nb_ff, subL, ints, intss, bools, sl1, I]) (by simp [subT]) rfl)
  rintro k ⟨hk, he⟩ next
  cases k with
  | zero =>
    refine vc_soundN 1000 ?_
    have e0 : (0 ≤ ((0 : Nat) : Int) - 1) = False := eq_false (by omega)
    have e1 : ((0 : Int) ≤ 0 - 1) = False := eq_false (by omega)
    simp only [e0, e1, ↓wPre, wPost, wFast, wCore, beq_self_eq_true, ite_true, ite_false, false_implies, true_implies, implies_true, eq_self, ne_eq, ↓reduceIte, reduceIte, Nat.reducePow, Nat.reduceLT, Nat.reduceLeDiff, Nat.reduceEqDiff, Nat.reduceAdd, Nat.reduceMul, Nat.reduceSub, Nat.reduceBEq, Nat.reduceDiv, Nat.reduceMod, reduceCtorEq, sl1, wFacts, zA, nb_tf, nb_ft, nb_tt, nb_ff]
    refine ret1E rfl rfl (settled_I _) ?_
    rw [List.drop_zero, List.drop_zero] at he
    rw [he, Int.sub_self]; rfl
  | succ k =>
    have e1 : ((k + 1 : Nat) : Int) - 1 = (k : Int) := by omega
    have w1 : IntKind.i64.wrap ((k : Int) - 1) = (k : Int) - 1 := by rw [IntKind.wrap_i64]; omega
    have e2 : ((k : Int) < a.length) = True := eq_true (by omega)
    have e3 : (k < a.length) = True := eq_true (by omega)
    have e4 : (k < b.length) = True := eq_true (by omega)
    have hcm : a.getD k 0 ≠ b.getD k 0 → Fn Try.prog 77 [I (a.getD k 0), I (b.getD k 0)] (I (val a - val b).sign) := fun h => by
      rw [cmp_at ha.1 hb.1 hl (by omega) he h]; exact ccmp_fn _ _
    refine vc_soundN 1000 ?_
    simp only [e1, w1, e3, e4, ↓wPre, wPost, wFast, wCore, beq_self_eq_true, ite_true, ite_false, false_implies, true_implies, implies_true, eq_self, ne_eq, ↓reduceIte, reduceIte, Nat.reducePow, Nat.reduceLT, Nat.reduceLeDiff, Nat.reduceEqDiff, Nat.reduceAdd, Nat.reduceMul, Nat.reduceSub, Nat.reduceBEq, Nat.reduceDiv, Nat.reduceMod, reduceCtorEq, sl1, wFacts, zA, nb_tf, nb_ft, nb_tt, nb_ff]
    refine ⟨fun h => call_fn (hcm h) rfl ?_, fun h => next k _ ⟨by omega, drop_eq_succ hl (by omega) he h⟩ (by omega) (sub_mk rfl (by simp [zA, nb_tf, nb_ft, nb_tt, nb_ff, subL, ints, intss, bools, sl1, I]) (by simp [subT]) rfl)⟩
    simp only [↓wPre, wPost, wFast, wCore, beq_self_eq_true, ite_true, ite_false, false_implies, true_implies, implies_true, eq_self, ne_eq, ↓reduceIte, reduceIte, Nat.reducePow, Nat.reduceLT, Nat.reduceLeDiff, Nat.reduceEqDiff, Nat.reduceAdd, Nat.reduceMul, Nat.reduceSub, Nat.reduceBEq, Nat.reduceDiv, Nat.reduceMod, reduceCtorEq, sl1, wFacts, zA, nb_tf, nb_ft, nb_tt, nb_ff]
    exact ret1E rfl rfl (settled_I _) rfl
theorem oof_fn (n : Int) (h : in64 n) : Fn Try.prog 50 [I n] (zA n) := by
  obtain ⟨R, hR⟩ : ∃ R, R = zA n := ⟨_, rfl⟩
  have sR : Settled R := hR ▸ settled_zA _
  unfold in64 at h
  have c1 : n < 0 → Fn Try.prog 55 [.bool (decide (n < 0)), .int .u64 (IntKind.u64.wrap (0 - IntKind.u64.wrap n))] R := fun h1 => by
    have e : IntKind.u64.wrap (0 - IntKind.u64.wrap n) = -n := by rw [IntKind.wrap_u64, IntKind.wrap_u64]; omega
    have e2 : sgn (decide (n < 0)) (-n) = n := by unfold sgn; rw [if_pos (decide_eq_true h1)]; omega
    have := unsigned_fn (decide (n < 0)) (-n) (by omega) (by omega)
    rw [e2] at this
    rw [e, hR]; exact this
  have c2 : ¬ n < 0 → Fn Try.prog 55 [.bool (decide (n < 0)), .int .u64 (IntKind.u64.wrap n)] R := fun h1 => by
    have e : IntKind.u64.wrap n = n := by rw [IntKind.wrap_u64]; omega
    have e2 : sgn (decide (n < 0)) n = n := by unfold sgn; rw [if_neg (by simp; omega)]
    have := unsigned_fn (decide (n < 0)) n (by omega) (by omega)
    rw [e2] at this
    rw [e, hR]; exact this
  rw [← hR]
  refine Fn.intro (fn := Try.f50) Try.call50 Try.func50 rfl mixed 4 [] [] [] (by kernel_rfl) (Nat.le_of_ble_eq_true rfl) (by simp [settled_ints, settled_I, settled_fn0, settled_intss, settled_bool, settled_nil, settled_zA, settled_ofA, settled_int]) (vc_soundN 1000 ?_); simp (config := { maxSteps := 2000000 }) only [AS.start, ↓wPre, wPost, wFast, wCore, beq_self_eq_true, ite_true, ite_false, false_implies, true_implies, implies_true, eq_self, ne_eq, ↓reduceIte, reduceIte, Nat.reducePow, Nat.reduceLT, Nat.reduceLeDiff, Nat.reduceEqDiff, Nat.reduceAdd, Nat.reduceMul, Nat.reduceSub, Nat.reduceBEq, Nat.reduceDiv, Nat.reduceMod, reduceCtorEq, sl1, wFacts, zA, nb_tf, nb_ft, nb_tt, nb_ff]
  refine ⟨fun h1 => call_fn (c1 h1) rfl ?_, fun h1 => call_fn (c2 h1) rfl ?_⟩
  · simp only [hR, ↓wPre, wPost, wFast, wCore, beq_self_eq_true, ite_true, ite_false, false_implies, true_implies, implies_true, eq_self, ne_eq, ↓reduceIte, reduceIte, Nat.reducePow, Nat.reduceLT, Nat.reduceLeDiff, Nat.reduceEqDiff, Nat.reduceAdd, Nat.reduceMul, Nat.reduceSub, Nat.reduceBEq, Nat.reduceDiv, Nat.reduceMod, reduceCtorEq, sl1, wFacts, zA, nb_tf, nb_ft, nb_tt, nb_ff]
    exact retRefE rfl ldk42 rfl rfl rfl hR sR ⟨Weak.rfl' _, Weak.rfl' _, trivial⟩
  · simp only [hR, ↓wPre, wPost, wFast, wCore, beq_self_eq_true, ite_true, ite_false, false_implies, true_implies, implies_true, eq_self, ne_eq, ↓reduceIte, reduceIte, Nat.reducePow, Nat.reduceLT, Nat.reduceLeDiff, Nat.reduceEqDiff, Nat.reduceAdd, Nat.reduceMul, Nat.reduceSub, Nat.reduceBEq, Nat.reduceDiv, Nat.reduceMod, reduceCtorEq, sl1, wFacts, zA, nb_tf, nb_ft, nb_tt, nb_ff]
    exact retRefE rfl ldk42 rfl rfl rfl hR sR ⟨Weak.rfl' _, Weak.rfl' _, trivial⟩
end
end Go.Ab.N

