/- Contracts of functions of these chapters, for every argument that fits, and what they need. -/
import Derived.Test.YtefjhgcndhepeaaGreatAb4
import Derived.Test.YtefjhgcndhepeaaGreatRows
import Derived.KernelRfl
set_option linter.unusedSimpArgs false
set_option linter.unusedVariables false
open Nat renaming reducePow → Y1, reduceLT → Y2, reduceLeDiff → Y3, reduceEqDiff → Y4, reduceAdd → Y5, reduceMul → Y6, reduceSub → Y7, reduceBEq → Y8, reduceDiv → Y9, reduceMod → YA
namespace Go.Ab.N
open Go.Ab
open Classical
noncomputable section

/-- Powers of the base. -/
def pw : Nat → Int
  | 0 => 1
  | n + 1 => 1000000000 * pw n
theorem pw_pos : ∀ n, 0 < pw n
  | 0 => by simp [pw]
  | n + 1 => by have := pw_pos n; simp only [pw]; omega
theorem pw_add (m n : Nat) : pw (m + n) = pw m * pw n := by
  induction m with
  | zero => simp [pw]
  | succ m ih => rw [show m + 1 + n = (m + n) + 1 by omega]; simp only [pw]; rw [ih, Int.mul_assoc]
theorem pw_mono {m n : Nat} (h : m ≤ n) : pw m ≤ pw n := by
  obtain ⟨k, rfl⟩ := Nat.exists_eq_add_of_le h
  induction k with
  | zero => exact Int.le_refl _
  | succ k ih =>
    have h1 := ih (by omega)
    have h2 := pw_pos (m + k)
    rw [show m + (k + 1) = (m + k) + 1 by omega]
    simp only [pw]; omega

/-- The value of digits, the least one first. -/
def val : List Int → Int
  | [] => 0
  | d :: l => d + 1000000000 * val l
def digt (d : Int) : Prop := 0 ≤ d ∧ d < 1000000000
def dig (l : List Int) : Prop := ∀ d ∈ l, digt d
def canon (l : List Int) : Prop := dig l ∧ (l ≠ [] → l.getD (l.length - 1) 0 ≠ 0)
theorem dig_nil : dig [] := fun _ h => by cases h
theorem dig_cons {d : Int} {l : List Int} : dig (d :: l) ↔ digt d ∧ dig l := by unfold dig; simp
theorem dig_app {l m : List Int} : dig (l ++ m) ↔ dig l ∧ dig m := by
  unfold dig
  constructor
  · exact fun h => ⟨fun d hd => h d (List.mem_append_left _ hd), fun d hd => h d (List.mem_append_right _ hd)⟩
  · rintro ⟨h1, h2⟩ d hd
    rcases List.mem_append.1 hd with h | h
    · exact h1 d h
    · exact h2 d h
theorem dig_at {l : List Int} (h : dig l) (i : Nat) : digt (l.getD i 0) := by
  by_cases hi : i < l.length
  · exact h _ (getD_mem hi)
  · rw [List.getD_eq_getElem?_getD, List.getElem?_eq_none (by omega)]; exact ⟨by simp, by simp⟩
theorem dig_take {l : List Int} (h : dig l) (n : Nat) : dig (l.take n) := fun d hd => h d (List.mem_of_mem_take hd)
theorem dig_of_at {l : List Int} (h : ∀ i, i < l.length → digt (l.getD i 0)) : dig l := by
  intro d hd
  obtain ⟨i, hi, rfl⟩ := List.getElem_of_mem hd
  have := h i hi
  rwa [List.getD_eq_getElem?_getD, List.getElem?_eq_getElem hi] at this
theorem val_nonneg {l : List Int} (h : dig l) : 0 ≤ val l := by
  induction l with
  | nil => exact Int.le_refl 0
  | cons d l ih =>
    obtain ⟨h1, h2⟩ := dig_cons.1 h
    have := ih h2
    simp only [val]; unfold digt at h1; omega
theorem val_lt {l : List Int} (h : dig l) : val l < pw l.length := by
  induction l with
  | nil => simp [val, pw]
  | cons d l ih =>
    obtain ⟨h1, h2⟩ := dig_cons.1 h
    have := ih h2
    simp only [val, List.length_cons, pw]; unfold digt at h1; omega
theorem val_app (l m : List Int) : val (l ++ m) = val l + pw l.length * val m := by
  induction l with
  | nil => simp [val, pw]
  | cons d l ih =>
    simp only [List.cons_append, val, List.length_cons, pw]
    rw [ih, Int.mul_add, Int.mul_assoc]; omega
theorem val_snoc (l : List Int) (x : Int) : val (l ++ [x]) = val l + pw l.length * x := by
  rw [val_app]; simp [val]
theorem val_take_succ (l : List Int) (i : Nat) (h : i < l.length) : val (l.take (i + 1)) = val (l.take i) + pw i * l.getD i 0 := by
  rw [take_succ_getD l 0 i h, val_snoc, List.length_take, Nat.min_eq_left (by omega)]
theorem val_zeros (n : Nat) : val (List.replicate n 0) = 0 := by
  induction n with
  | zero => rfl
  | succ n ih => simp [List.replicate_succ, val, ih]
theorem val_eq_zero {l : List Int} (h : canon l) : val l = 0 ↔ l = [] := by
  constructor
  · intro h0
    apply Classical.byContradiction
    intro hne
    have hl := h.2 hne
    have hlen : 0 < l.length := List.length_pos_iff.2 hne
    have e := val_take_succ l (l.length - 1) (by omega)
    rw [show l.length - 1 + 1 = l.length by omega, List.take_length] at e
    have h1 := val_nonneg (dig_take h.1 (l.length - 1))
    have h2 := dig_at h.1 (l.length - 1)
    have h3 := pw_pos (l.length - 1)
    have h4 : 0 < pw (l.length - 1) * l.getD (l.length - 1) 0 := Int.mul_pos h3 (by unfold digt at h2; omega)
    omega
  · rintro rfl; rfl
theorem canon_ge {l : List Int} (h : canon l) (hne : l ≠ []) : pw (l.length - 1) ≤ val l := by
  have hl := h.2 hne
  have hlen : 0 < l.length := List.length_pos_iff.2 hne
  have e := val_take_succ l (l.length - 1) (by omega)
  rw [show l.length - 1 + 1 = l.length by omega, List.take_length] at e
  have h1 := val_nonneg (dig_take h.1 (l.length - 1))
  have h2 := dig_at h.1 (l.length - 1)
  have h3 := pw_pos (l.length - 1)
  have h4 : pw (l.length - 1) * 1 ≤ pw (l.length - 1) * l.getD (l.length - 1) 0 := Int.mul_le_mul_of_nonneg_left (by unfold digt at h2; omega) (by omega)
  omega
theorem val_inj : ∀ {a b : List Int}, dig a → dig b → a.length = b.length → val a = val b → a = b
  | [], [], _, _, _, _ => rfl
  | [], _ :: _, _, _, h, _ => by simp at h
  | _ :: _, [], _, _, h, _ => by simp at h
  | x :: a, y :: b, ha, hb, hl, hv => by
    obtain ⟨h1, h2⟩ := dig_cons.1 ha
    obtain ⟨h3, h4⟩ := dig_cons.1 hb
    simp only [val] at hv
    unfold digt at h1 h3
    have hxy : x = y := by omega
    have hv' : val a = val b := by omega
    rw [hxy, val_inj h2 h4 (by simpa using hl) hv']
theorem canon_inj {a b : List Int} (ha : canon a) (hb : canon b) (h : val a = val b) : a = b := by
  have key : ∀ {a b : List Int}, canon a → canon b → val a = val b → a.length ≤ b.length → a = b := by
    intro a b ha hb h hl
    by_cases e : a.length = b.length
    · exact val_inj ha.1 hb.1 e h
    · exfalso
      have hne : b ≠ [] := fun e' => by
        have : b.length = 0 := by rw [e']; rfl
        omega
      have h1 := canon_ge hb hne
      have h2 := val_lt ha.1
      have h3 := pw_mono (show a.length ≤ b.length - 1 by omega)
      omega
  rcases Nat.le_total a.length b.length with hl | hl
  · exact key ha hb h hl
  · exact (key hb ha h.symm hl).symm

/-- The canonical digits of a number. -/
def digs (n : Nat) : List Int := if h : n = 0 then [] else ((n % 1000000000 : Nat) : Int) :: digs (n / 1000000000)
termination_by n
decreasing_by omega
theorem digs_zero : digs 0 = [] := by rw [digs]; simp
theorem digs_pos {n : Nat} (h : n ≠ 0) : digs n = ((n % 1000000000 : Nat) : Int) :: digs (n / 1000000000) := by rw [digs]; simp [h]
theorem digs_val (n : Nat) : val (digs n) = n := by
  induction n using Nat.strongRecOn with
  | ind n ih =>
    by_cases h : n = 0
    · subst h; rw [digs_zero]; rfl
    · rw [digs_pos h]
      simp only [val]
      rw [ih (n / 1000000000) (by omega)]; omega
theorem digs_dig (n : Nat) : dig (digs n) := by
  induction n using Nat.strongRecOn with
  | ind n ih =>
    by_cases h : n = 0
    · subst h; rw [digs_zero]; exact dig_nil
    · rw [digs_pos h]
      exact dig_cons.2 ⟨⟨by omega, by omega⟩, ih _ (by omega)⟩
theorem digs_ne {n : Nat} (h : n ≠ 0) : digs n ≠ [] := by rw [digs_pos h]; simp
theorem digs_nil_iff {n : Nat} : digs n = [] ↔ n = 0 := ⟨fun h => Classical.byContradiction fun e => digs_ne e h, fun h => by rw [h]; exact digs_zero⟩
theorem digs_canon (n : Nat) : canon (digs n) := by
  refine ⟨digs_dig n, ?_⟩
  induction n using Nat.strongRecOn with
  | ind n ih =>
    intro hne
    by_cases h : n = 0
    · subst h; exact absurd digs_zero hne
    · rw [digs_pos h]
      by_cases h2 : n / 1000000000 = 0
      · rw [h2, digs_zero]; simp; omega
      · have hn := digs_ne h2
        have := ih (n / 1000000000) (by omega) hn
        obtain ⟨k, hk⟩ : ∃ k, (digs (n / 1000000000)).length = k + 1 := ⟨(digs (n / 1000000000)).length - 1, by have := List.length_pos_iff.2 hn; omega⟩
        simp only [List.length_cons, hk, Nat.add_sub_cancel] at this ⊢
        simpa using this
theorem digs_of_canon {l : List Int} (h : canon l) : digs (val l).toNat = l := by
  refine canon_inj (digs_canon _) h ?_
  rw [digs_val]
  have := val_nonneg h.1
  omega
theorem val_nat {l : List Int} (h : dig l) : ((val l).toNat : Int) = val l := Int.toNat_of_nonneg (val_nonneg h)

/-- Zeros at the end taken off. -/
def trim (l : List Int) : Nat → Nat
  | 0 => 0
  | n + 1 => if l.getD n 0 = 0 then trim l n else n + 1
theorem trim_le (l : List Int) : ∀ n, trim l n ≤ n
  | 0 => Nat.le_refl _
  | n + 1 => by
    simp only [trim]
    split
    · exact Nat.le_succ_of_le (trim_le l n)
    · exact Nat.le_refl _
theorem trim_val {l : List Int} : ∀ n, n ≤ l.length → val (l.take (trim l n)) = val (l.take n)
  | 0, _ => rfl
  | n + 1, h => by
    simp only [trim]
    split
    · rename_i e
      rw [trim_val n (by omega), val_take_succ l n h, e]; simp
    · rfl
theorem trim_canon {l : List Int} (h : dig l) (n : Nat) (hn : n ≤ l.length) : canon (l.take (trim l n)) := by
  refine ⟨dig_take h _, fun hne => ?_⟩
  induction n with
  | zero => simp [trim] at hne
  | succ n ih =>
    simp only [trim] at hne ⊢
    split
    · rename_i e; rw [if_pos e] at hne; exact ih (by omega) hne
    · rename_i e
      rw [List.length_take, Nat.min_eq_left hn, Nat.add_sub_cancel, getD_take l 0 n (n + 1) (by omega)]
      exact e
theorem trim_digs {l : List Int} (h : dig l) : l.take (trim l l.length) = digs (val l).toNat := by
  have h1 := trim_canon h l.length (Nat.le_refl _)
  rw [← digs_of_canon h1, trim_val _ (Nat.le_refl _), List.take_length]

/-- Sums of digits that a function tells. -/
def sm (f : Nat → Int) : Nat → Int
  | 0 => 0
  | n + 1 => sm f n + pw n * f n
def tab (f : Nat → Int) (n : Nat) : List Int := (List.range n).map f
theorem tab_len (f : Nat → Int) (n : Nat) : (tab f n).length = n := by simp [tab]
theorem tab_succ (f : Nat → Int) (n : Nat) : tab f (n + 1) = tab f n ++ [f n] := by simp [tab, List.range_succ]
theorem tab_at (f : Nat → Int) (n i : Nat) (h : i < n) : (tab f n).getD i 0 = f i := by simp [tab, List.getD_eq_getElem?_getD, h]
theorem tab_congr {f f' : Nat → Int} {n : Nat} (h : ∀ k, k < n → f k = f' k) : tab f n = tab f' n := List.map_congr_left fun k hk => h k (by simpa using hk)
theorem val_tab (f : Nat → Int) : ∀ n, val (tab f n) = sm f n
  | 0 => rfl
  | n + 1 => by rw [tab_succ, val_snoc, tab_len, val_tab f n]; rfl
theorem sm_take (l : List Int) : ∀ n, n ≤ l.length → sm (fun i => l.getD i 0) n = val (l.take n)
  | 0, _ => rfl
  | n + 1, h => by rw [val_take_succ l n h, ← sm_take l n (by omega)]; rfl
theorem sm_len (l : List Int) (n : Nat) (h : l.length ≤ n) : sm (fun i => l.getD i 0) n = val l := by
  obtain ⟨k, rfl⟩ := Nat.exists_eq_add_of_le h
  induction k with
  | zero => rw [Nat.add_zero, sm_take l _ (Nat.le_refl _), List.take_length]
  | succ k ih =>
    rw [show l.length + (k + 1) = (l.length + k) + 1 by omega]
    simp only [sm]
    rw [ih (by omega)]
    have : l.getD (l.length + k) 0 = 0 := by rw [List.getD_eq_getElem?_getD, List.getElem?_eq_none (by omega)]; rfl
    rw [this]; simp
theorem sm_congr {f f' : Nat → Int} : ∀ {n : Nat}, (∀ k, k < n → f k = f' k) → sm f n = sm f' n
  | 0, _ => rfl
  | n + 1, h => by simp only [sm]; rw [sm_congr fun k hk => h k (by omega), h n (by omega)]
theorem dig_tab {f : Nat → Int} {n : Nat} (h : ∀ i, i < n → digt (f i)) : dig (tab f n) := by
  refine dig_of_at fun i hi => ?_
  rw [tab_len] at hi
  rw [tab_at _ _ _ hi]; exact h i hi

/-! ### Addition -/
def addC (a b : Nat → Int) : Nat → Int
  | 0 => 0
  | i + 1 => if 1000000000 ≤ a i + b i + addC a b i then 1 else 0
def addO (a b : Nat → Int) (i : Nat) : Int := if 1000000000 ≤ a i + b i + addC a b i then a i + b i + addC a b i - 1000000000 else a i + b i + addC a b i
theorem addC_bit (a b : Nat → Int) : ∀ i, addC a b i = 0 ∨ addC a b i = 1
  | 0 => .inl rfl
  | i + 1 => by simp only [addC]; split <;> simp
theorem addO_dig {a b : Nat → Int} {i : Nat} (ha : digt (a i)) (hb : digt (b i)) : digt (addO a b i) := by
  have := addC_bit a b i
  unfold digt at *
  unfold addO
  split <;> omega
theorem add_sum (a b : Nat → Int) : ∀ n, sm (addO a b) n + pw n * addC a b n = sm a n + sm b n
  | 0 => by simp [sm, addC]
  | n + 1 => by
    have ih := add_sum a b n
    have e : addO a b n + 1000000000 * addC a b (n + 1) = a n + b n + addC a b n := by
      simp only [addO, addC]
      split <;> omega
    simp only [sm, pw]
    have : pw n * (addO a b n + 1000000000 * addC a b (n + 1)) = pw n * (a n + b n + addC a b n) := by rw [e]
    grind

/-! ### Subtraction -/
def subC (a b : Nat → Int) : Nat → Int
  | 0 => 0
  | i + 1 => if a i - b i - subC a b i < 0 then 1 else 0
def subO (a b : Nat → Int) (i : Nat) : Int := if a i - b i - subC a b i < 0 then a i - b i - subC a b i + 1000000000 else a i - b i - subC a b i
theorem subC_bit (a b : Nat → Int) : ∀ i, subC a b i = 0 ∨ subC a b i = 1
  | 0 => .inl rfl
  | i + 1 => by simp only [subC]; split <;> simp
theorem subO_dig {a b : Nat → Int} {i : Nat} (ha : digt (a i)) (hb : digt (b i)) : digt (subO a b i) := by
  have := subC_bit a b i
  unfold digt at *
  unfold subO
  split <;> omega
theorem sub_sum (a b : Nat → Int) : ∀ n, sm (subO a b) n - pw n * subC a b n = sm a n - sm b n
  | 0 => by simp [sm, subC]
  | n + 1 => by
    have ih := sub_sum a b n
    have e : subO a b n - 1000000000 * subC a b (n + 1) = a n - b n - subC a b n := by
      simp only [subO, subC]
      split <;> omega
    simp only [sm, pw]
    have : pw n * (subO a b n - 1000000000 * subC a b (n + 1)) = pw n * (a n - b n - subC a b n) := by rw [e]
    grind
theorem sm_lt {f : Nat → Int} : ∀ {n : Nat}, (∀ i, i < n → digt (f i)) → 0 ≤ sm f n ∧ sm f n < pw n
  | 0, _ => by simp [sm, pw]
  | n + 1, h => by
    obtain ⟨h1, h2⟩ := sm_lt (n := n) fun i hi => h i (by omega)
    have h3 := h n (by omega)
    have h4 := pw_pos n
    unfold digt at h3
    have h5 : pw n * f n ≤ pw n * 999999999 := Int.mul_le_mul_of_nonneg_left (by omega) (by omega)
    have h6 : 0 ≤ pw n * f n := Int.mul_nonneg (by omega) h3.1
    simp only [sm, pw]; omega
/-- No borrow is left, if what is taken away is not more. -/
theorem sub_end {a b : Nat → Int} {n : Nat} (ha : ∀ i, i < n → digt (a i)) (hb : ∀ i, i < n → digt (b i)) (h : sm b n ≤ sm a n) : subC a b n = 0 := by
  have h1 := sub_sum a b n
  have h2 := (sm_lt (f := subO a b) (n := n) fun i hi => subO_dig (ha i hi) (hb i hi)).2
  rcases subC_bit a b n with e | e
  · exact e
  · rw [e] at h1; omega
end
end Go.Ab.N
namespace Go.Ab.N
open Go.Ab
open Classical
noncomputable section

theorem getD_setI (l : List Int) (i j : Nat) (x : Int) (hi : i < l.length) : (l.set i x).getD j 0 = if j = i then x else l.getD j 0 := by
  simp only [List.getD_eq_getElem?_getD, List.getElem?_set]
  by_cases h : i = j
  · subst h; simp [hi]
  · simp [h, Ne.symm h]
theorem val_set : ∀ (l : List Int) (i : Nat) (x : Int), i < l.length → val (l.set i x) = val l + pw i * (x - l.getD i 0)
  | [], _, _, h => by simp at h
  | d :: l, 0, x, _ => by simp [val, pw]; omega
  | d :: l, i + 1, x, h => by
    have ih := val_set l i x (by simpa using h)
    simp only [List.set_cons_succ, val, pw, List.getD_cons_succ]
    rw [ih, Int.mul_add, Int.mul_assoc]; omega
theorem dig_set {l : List Int} (h : dig l) (i : Nat) {x : Int} (hx : digt x) : dig (l.set i x) := fun d hd => by
  rcases List.mem_or_eq_of_mem_set hd with e | e
  · exact h d e
  · rw [e]; exact hx
theorem digt_mul {x y : Int} (hx : digt x) (hy : digt y) : 0 ≤ x * y ∧ x * y ≤ 999999998000000001 := by
  unfold digt at hx hy
  have h1 : 0 ≤ x * y := Int.mul_nonneg hx.1 hy.1
  have h2 : x * y ≤ 999999999 * y := Int.mul_le_mul_of_nonneg_right (by omega) hy.1
  omega
/-- The rest of a list from an index on. -/
theorem val_drop (l : List Int) (i : Nat) (h : i < l.length) : val (l.drop i) = l.getD i 0 + 1000000000 * val (l.drop (i + 1)) := by
  rw [List.drop_eq_getElem_cons h]
  simp only [val]
  rw [List.getD_eq_getElem?_getD, List.getElem?_eq_getElem h]; rfl
theorem val_split (l : List Int) (i : Nat) (h : i ≤ l.length) : val l = val (l.take i) + pw i * val (l.drop i) := by
  conv => lhs; rw [← List.take_append_drop i l]
  rw [val_app, List.length_take, Nat.min_eq_left h]

/-! ### Times a digit -/
def mulC (a : Nat → Int) (k : Int) : Nat → Int
  | 0 => 0
  | i + 1 => (a i * k + mulC a k i) / 1000000000
def mulO (a : Nat → Int) (k : Int) (i : Nat) : Int := (a i * k + mulC a k i) % 1000000000
theorem mulC_dig {a : Nat → Int} {k : Int} (ha : ∀ i, digt (a i)) (hk : digt k) : ∀ i, digt (mulC a k i)
  | 0 => ⟨by simp [mulC], by simp [mulC]⟩
  | i + 1 => by
    have h1 := mulC_dig ha hk i
    have h2 := digt_mul (ha i) hk
    simp only [mulC]; unfold digt at *; omega
theorem mulO_dig {a : Nat → Int} {k : Int} (ha : ∀ i, digt (a i)) (hk : digt k) (i : Nat) : digt (mulO a k i) := by
  unfold mulO digt; omega
theorem mul_sum (a : Nat → Int) (k : Int) : ∀ n, sm (mulO a k) n + pw n * mulC a k n = sm a n * k
  | 0 => by simp [sm, mulC]
  | n + 1 => by
    have ih := mul_sum a k n
    have e : mulO a k n + 1000000000 * mulC a k (n + 1) = a n * k + mulC a k n := by
      simp only [mulO, mulC]; omega
    have e2 : pw n * (mulO a k n + 1000000000 * mulC a k (n + 1)) = pw n * (a n * k + mulC a k n) := by rw [e]
    simp only [sm, pw]
    grind

/-! ### Divided by a digit -/
/-- The rest when the digits from the i-th on are divided. -/
def remD (a : List Int) (b : Int) (i : Nat) : Int := val (a.drop i) % b
def quoD (a : List Int) (b : Int) (i : Nat) : Int := (remD a b (i + 1) * 1000000000 + a.getD i 0) / b
theorem remD_step (a : List Int) (b : Int) (i : Nat) (h : i < a.length) : remD a b i = (remD a b (i + 1) * 1000000000 + a.getD i 0) % b := by
  unfold remD
  rw [val_drop a i h]
  rw [Int.add_comm, Int.mul_comm, Int.add_emod, Int.mul_emod]
  conv => rhs; rw [Int.add_emod, Int.mul_emod, Int.emod_emod_of_dvd _ (Int.dvd_refl b)]
theorem remD_end (a : List Int) (b : Int) : remD a b a.length = 0 := by unfold remD; simp [val]
theorem quoD_dig {a : List Int} {b : Int} (ha : dig a) (hb : 0 < b) (i : Nat) : digt (quoD a b i) := by
  have h1 := Int.emod_nonneg (val (a.drop (i + 1))) (show b ≠ 0 by omega)
  have h2 := Int.emod_lt_of_pos (val (a.drop (i + 1))) hb
  have h3 := dig_at ha i
  unfold digt at *
  unfold quoD remD
  refine ⟨Int.ediv_nonneg (by omega) (by omega), Int.ediv_lt_of_lt_mul hb ?_⟩
  omega
theorem quo_sum {a : List Int} {b : Int} (hb : 0 < b) : ∀ i, i ≤ a.length → val (a.drop (a.length - i)) = b * val ((tab (quoD a b) a.length).drop (a.length - i)) + remD a b (a.length - i)
  | 0, _ => by
    have e : (tab (quoD a b) a.length).drop a.length = [] := by rw [List.drop_eq_nil_iff, tab_len]; exact Nat.le_refl _
    simp [e, remD_end, val]
  | i + 1, h => by
    have ih := quo_sum (a := a) hb i (by omega)
    obtain ⟨k, hk⟩ : ∃ k, a.length - (i + 1) = k := ⟨_, rfl⟩
    have hk1 : a.length - i = k + 1 := by omega
    rw [hk1] at ih
    rw [hk]
    rw [val_drop a k (by omega), val_drop (tab (quoD a b) a.length) k (by rw [tab_len]; omega), tab_at _ _ _ (show k < a.length by omega)]
    have e := Int.mul_ediv_add_emod (remD a b (k + 1) * 1000000000 + a.getD k 0) b
    have e2 := remD_step a b k (by omega)
    have e3 : quoD a b k = (remD a b (k + 1) * 1000000000 + a.getD k 0) / b := rfl
    rw [← e3, ← e2] at e
    grind
theorem quo_all {a : List Int} {b : Int} (hb : 0 < b) : val a = b * val (tab (quoD a b) a.length) + remD a b 0 := by
  have := quo_sum (a := a) hb a.length (Nat.le_refl _)
  simpa using this
end
end Go.Ab.N
namespace Go.Ab.N
open Go.Ab
open Classical
noncomputable section

/-- An integer as the program holds it. -/
def zA (z : Int) : AV := .agg [.bool (decide (z < 0)), ints (digs z.natAbs)]
theorem settled_zA (z : Int) : Settled (zA z) := settled_agg (by simp [settled_ints, settled_bool])
/-- Digits with a sign. -/
theorem nb_tf : (!(true == false)) = true := Go.Ab.nrfl rfl
theorem nb_ft : (!(false == true)) = true := Go.Ab.nrfl rfl
theorem nb_tt : (!(true == true)) = false := Go.Ab.nrfl rfl
theorem nb_ff : (!(false == false)) = false := Go.Ab.nrfl rfl
set_option linter.defProp false in
def wN := And.intro nb_tf (And.intro nb_ft (And.intro nb_tt nb_ff))
def sgn (neg : Bool) (v : Int) : Int := if neg = true then -v else v
theorem digs_len_zero {n : Nat} : (digs n).length = 0 ↔ n = 0 := by rw [List.length_eq_zero_iff, digs_nil_iff]
/-- What 'of' makes of digits. -/
theorem of_zA {l : List Int} (h : dig l) (neg : Bool) : zA (sgn neg (val l)) = .agg [.bool (neg && decide (trim l l.length ≠ 0)), ints (l.take (trim l l.length))] := by
  have h0 := val_nonneg h
  have e1 : (sgn neg (val l)).natAbs = (val l).toNat := by unfold sgn; split <;> omega
  have e2 := trim_digs h
  have hle := trim_le l l.length
  have e3 : trim l l.length = 0 ↔ val l = 0 := by
    have h1 : (l.take (trim l l.length)).length = trim l l.length := by rw [List.length_take, Nat.min_eq_left hle]
    rw [← h1, e2, digs_len_zero]; omega
  unfold zA
  rw [e1, e2]
  congr 3
  unfold sgn
  have h0' : ¬ val l < 0 := by omega
  cases neg
  · simp [h0']
  · have : -val l < 0 ↔ ¬ trim l l.length = 0 := by rw [e3]; omega
    simp only [if_true, Bool.true_and, decide_eq_decide]
    exact this
theorem trim_zero {l : List Int} {n : Nat} (h : ∀ i, i < n → l.getD i 0 = 0) : trim l n = 0 := by
  induction n with
  | zero => rfl
  | succ n ih => simp only [trim]; rw [if_pos (h n (by omega))]; exact ih fun i hi => h i (by omega)
theorem trim_from {l : List Int} {n : Nat} : ∀ m, n ≤ m → (∀ i, n ≤ i → i < m → l.getD i 0 = 0) → trim l m = trim l n
  | 0, h, _ => by rw [show n = 0 by omega]
  | m + 1, h, hz => by
    by_cases e : n = m + 1
    · rw [e]
    · simp only [trim]
      rw [if_pos (hz m (by omega) (by omega))]
      exact trim_from m (by omega) fun i h1 h2 => hz i h1 (by omega)
/-- Small numbers. -/
theorem digs_one {d : Nat} (h0 : d ≠ 0) (h : d < 1000000000) : digs d = [(d : Int)] := by
  rw [digs_pos h0, show d / 1000000000 = 0 by omega, digs_zero, show d % 1000000000 = d by omega]
theorem digs_two {d : Nat} (h0 : 1000000000 ≤ d) (h : d < 1000000000000000000) : digs d = [((d % 1000000000 : Nat) : Int), ((d / 1000000000 : Nat) : Int)] := by
  rw [digs_pos (by omega), digs_one (by omega) (by omega)]
theorem digs_three {d : Nat} (h0 : 1000000000000000000 ≤ d) (h : d < 18446744073709551616) :
    digs d = [((d % 1000000000 : Nat) : Int), ((d / 1000000000 % 1000000000 : Nat) : Int), ((d / 1000000000 / 1000000000 : Nat) : Int)] := by
  rw [digs_pos (by omega), digs_two (by omega) (by omega)]

def dg (l : List Int) : Nat → Int := fun i => l.getD i 0
theorem dg_dig {l : List Int} (h : dig l) (i : Nat) : digt (dg l i) := dig_at h i
theorem dg_out {l : List Int} {i : Nat} (h : l.length ≤ i) : dg l i = 0 := by unfold dg; rw [List.getD_eq_getElem?_getD, List.getElem?_eq_none h]; rfl
theorem sm_dg (l : List Int) (n : Nat) (h : l.length ≤ n) : sm (dg l) n = val l := sm_len l n h
/-- What 'plus' makes. -/
def plusF (a b : List Int) (n : Nat) : List Int := tab (addO (dg a) (dg b)) n ++ [addC (dg a) (dg b) n]
theorem plusF_val (a b : List Int) (n : Nat) (ha : a.length ≤ n) (hb : b.length ≤ n) : val (plusF a b n) = val a + val b := by
  unfold plusF
  rw [val_snoc, tab_len, val_tab, add_sum, sm_dg a n ha, sm_dg b n hb]
theorem plusF_dig {a b : List Int} (ha : dig a) (hb : dig b) (n : Nat) : dig (plusF a b n) := by
  unfold plusF
  refine dig_app.2 ⟨dig_tab fun i _ => addO_dig (dg_dig ha i) (dg_dig hb i), dig_cons.2 ⟨?_, dig_nil⟩⟩
  have := addC_bit (dg a) (dg b) n
  unfold digt; omega
theorem plusF_len (a b : List Int) (n : Nat) : (plusF a b n).length = n + 1 := by simp [plusF, tab_len]
theorem addO_comm (a b : Nat → Int) : ∀ i, addC a b i = addC b a i ∧ addO a b i = addO b a i
  | 0 => ⟨rfl, by unfold addO; simp [addC, Int.add_comm]⟩
  | i + 1 => by
    have h := (addO_comm a b i).1
    have e : addC a b (i + 1) = addC b a (i + 1) := by simp only [addC]; rw [h, Int.add_comm (a i)]
    exact ⟨e, by unfold addO; rw [e, Int.add_comm (a (i + 1))]⟩
/-- What 'minus' makes. -/
def minusF (a b : List Int) : List Int := tab (subO (dg a) (dg b)) a.length
theorem minusF_val {a b : List Int} (ha : dig a) (hb : dig b) (hl : b.length ≤ a.length) (h : val b ≤ val a) : val (minusF a b) = val a - val b := by
  unfold minusF
  have e := sub_end (n := a.length) (fun i _ => dg_dig ha i) (fun i _ => dg_dig hb i) (by rw [sm_dg b _ hl, sm_dg a _ (Nat.le_refl _)]; exact h)
  have e2 := sub_sum (dg a) (dg b) a.length
  rw [e, sm_dg a _ (Nat.le_refl _), sm_dg b _ hl] at e2
  rw [val_tab]; omega
theorem minusF_dig {a b : List Int} (ha : dig a) (hb : dig b) : dig (minusF a b) := dig_tab fun i _ => subO_dig (dg_dig ha i) (dg_dig hb i)
/-- Halfway: the digits below i are done, a borrow is taken from the i-th. -/
def minusM (a b : List Int) (i : Nat) : List Int := tab (fun j => if j < i then subO (dg a) (dg b) j else if j = i then dg a j - subC (dg a) (dg b) i else dg a j) a.length
theorem tab_list (l : List Int) : tab (dg l) l.length = l := by
  refine List.ext_getElem (by simp [tab]) fun i h1 h2 => ?_
  simp [tab, dg, List.getD_eq_getElem?_getD, h2]
theorem minusM_zero (a b : List Int) : minusM a b 0 = a := by
  unfold minusM
  conv => rhs; rw [← tab_list a]
  refine tab_congr fun k _ => ?_
  rw [if_neg (by omega)]
  split
  · simp [subC]
  · rfl
theorem minusM_end (a b : List Int) : minusM a b a.length = minusF a b := tab_congr fun k hk => by rw [if_pos hk]
theorem tab_setI (f : Nat → Int) (n k : Nat) (x : Int) (h : k < n) : (tab f n).set k x = tab (fun q => if q = k then x else f q) n := by
  refine List.ext_getElem (by simp [tab]) fun q h1 h2 => ?_
  have hq : q < n := by simpa [tab_len] using h2
  by_cases e : k = q
  · subst e; simp [tab]
  · simp [tab, List.getElem_set, e, Ne.symm e]
theorem getD_tab (f : Nat → Int) (n i : Nat) : (tab f n).getD i 0 = if i < n then f i else 0 := by
  by_cases h : i < n
  · rw [if_pos h, tab_at _ _ _ h]
  · rw [if_neg h, List.getD_eq_getElem?_getD, List.getElem?_eq_none (by rw [tab_len]; omega)]; rfl
end
end Go.Ab.N
namespace Go.Ab.N
open Go Go.Ab
open Classical
noncomputable section
theorem weak_agg {l m : List AV} (h : WeakL l m) : Weak (.agg l) (.agg m) := fun c v hv => by
  cases hv with
  | agg vs _ hs hr =>
    have := (weak_tup h) c (.tuple vs) (.tup vs _ hs hr)
    cases this with
    | tup _ _ hs' hr' => exact .agg vs m hs' hr'
theorem weak_emp (f : Nat → AV) (t : Bool) : Weak (.sl 0 0 f t) (ints []) := weak_slW rfl (Nat.le_refl _) fun j hj => by exact absurd hj (Nat.not_lt_zero j)
/-- A literal slice of numbers. -/
theorem weak_litE {n : Nat} {L : List AV} {l : List Int} {t : Bool} (hn : n = l.length) (h : L = l.map I) : Weak (.sl n n (ofL L) t) (ints l) := by
  subst hn; subst h; exact weak_lit l t
theorem cells_ofL (L : List AV) : ∀ n off, off + n = L.length → cellsFrom (ofL L) off 0 n = L.drop off := by
  have key : ∀ n off j, off + j + n = L.length → cellsFrom (ofL L) off j n = L.drop (off + j) := by
    intro n
    induction n with
    | zero => intro off j h; rw [List.drop_eq_nil_iff.2 (by omega)]; rfl
    | succ n ih =>
      intro off j h
      rw [List.drop_eq_getElem_cons (by omega)]
      simp only [cellsFrom]
      rw [ih off (j + 1) (by omega)]
      congr 1
      show L.getD (off + j) .any = _
      rw [List.getD_eq_getElem?_getD, List.getElem?_eq_getElem (by omega)]; rfl
  intro n off h
  rw [key n off 0 (by omega)]; rfl
theorem retRef {P : Program} {fn : Func} {str hcs : List Nat} {r : AV} {s : AS} {t u id ver n : Nat} {L : List AV} (hr : fn.results = #[.cell t u]) (hk : ldk P u = some (some n)) (hs : s.get t = .ref id ver 0)
    (ho : s.h[id]? = some (.row ver n (ofL L))) (hn : L.length = n) (h : Sees s.h (.agg L) r) : RetOk (envP P fn str hcs r) s := by
  subst hn
  refine retCellP (v := .agg L) hr ?_ h
  rw [hs, aload_K, hk, aloadK_ref, ho, aloadR_row, rd_s, cells_ofL L _ _ (by omega)]
  simp [oif]
/-- The whole value is known. -/
theorem retRefE {P : Program} {fn : Func} {str hcs : List Nat} {r : AV} {s : AS} {t u id ver n : Nat} {L M : List AV} (hr : fn.results = #[.cell t u]) (hk : ldk P u = some (some n)) (hs : s.get t = .ref id ver 0)
    (ho : s.h[id]? = some (.row ver n (ofL L))) (hn : L.length = n) (e : r = .agg M) (hset : Settled r) (h : WeakL L M) : RetOk (envP P fn str hcs r) s := by
  refine retRef hr hk hs ho hn ?_
  subst e
  exact sees_of_weak hset (weak_agg h)
end
end Go.Ab.N
namespace Go.Ab.N
open Go Go.RowKit Go.Proofs
theorem ldk3 : ldk Tryz.prog 3 = some none := by kernel_rfl
theorem tsize3 : tsize Tryz.prog 3 = some 1 := by kernel_rfl
theorem ikd3 : ikd Tryz.prog 3 = some .i64 := by kernel_rfl
theorem zeroL3 : zeroL Tryz.prog 3 = some [.int .i64 0] := by kernel_rfl
theorem zeroV3 : zeroV Tryz.prog 3 = some (.int .i64 0) := by kernel_rfl
theorem ldk4 : ldk Tryz.prog 4 = some none := by kernel_rfl
theorem tsize4 : tsize Tryz.prog 4 = some 1 := by kernel_rfl
theorem boolT4 : boolT Tryz.prog 4 = true := by kernel_rfl
theorem zeroL4 : zeroL Tryz.prog 4 = some [.bool false] := by kernel_rfl
theorem zeroV4 : zeroV Tryz.prog 4 = some (.bool false) := by kernel_rfl
theorem ldk5 : ldk Tryz.prog 5 = some none := by kernel_rfl
theorem tsize5 : tsize Tryz.prog 5 = some 1 := by kernel_rfl
theorem ikd5 : ikd Tryz.prog 5 = some .u8 := by kernel_rfl
theorem zeroL5 : zeroL Tryz.prog 5 = some [.int .u8 0] := by kernel_rfl
theorem zeroV5 : zeroV Tryz.prog 5 = some (.int .u8 0) := by kernel_rfl
theorem ldk9 : ldk Tryz.prog 9 = some none := by kernel_rfl
theorem tsize9 : tsize Tryz.prog 9 = some 1 := by kernel_rfl
theorem ldk17 : ldk Tryz.prog 17 = some none := by kernel_rfl
theorem tsize17 : tsize Tryz.prog 17 = some 1 := by kernel_rfl
theorem ptrT17 : ptrT Tryz.prog 17 = true := by kernel_rfl
theorem zeroL17 : zeroL Tryz.prog 17 = some [.nil] := by kernel_rfl
theorem zeroV17 : zeroV Tryz.prog 17 = some (.nil) := by kernel_rfl
theorem ldk18 : ldk Tryz.prog 18 = some (some 1) := by kernel_rfl
theorem tsize18 : tsize Tryz.prog 18 = some 1 := by kernel_rfl
theorem fld18_0 : fld Tryz.prog 18 0 = some (0, 1, none) := by kernel_rfl
theorem bpl18_0 : bldPl Tryz.prog 18 0 = some (0, 1) := by kernel_rfl
theorem bok18 : bldOk Tryz.prog 18 = true := by kernel_rfl
theorem zeroL18 : zeroL Tryz.prog 18 = some [.nil] := by kernel_rfl
theorem zeroV18 : zeroV Tryz.prog 18 = some (.agg [.nil]) := by kernel_rfl
theorem ldk22 : ldk Tryz.prog 22 = some none := by kernel_rfl
theorem tsize22 : tsize Tryz.prog 22 = some 1 := by kernel_rfl
theorem sliceT22 : sliceT Tryz.prog 22 = true := by kernel_rfl
theorem elm22 : elm Tryz.prog 22 = some (3, 1, 8) := by kernel_rfl
theorem zeroL22 : zeroL Tryz.prog 22 = some [.sl 0 0 (fun _ => .any) true] := by kernel_rfl
theorem zeroV22 : zeroV Tryz.prog 22 = some (.sl 0 0 (fun _ => .any) true) := by kernel_rfl
theorem ldk23 : ldk Tryz.prog 23 = some none := by kernel_rfl
theorem tsize23 : tsize Tryz.prog 23 = some 1 := by kernel_rfl
theorem sliceT23 : sliceT Tryz.prog 23 = true := by kernel_rfl
theorem elm23 : elm Tryz.prog 23 = some (110, 2, 16) := by kernel_rfl
theorem zeroL23 : zeroL Tryz.prog 23 = some [.sl 0 0 (fun _ => .any) true] := by kernel_rfl
theorem zeroV23 : zeroV Tryz.prog 23 = some (.sl 0 0 (fun _ => .any) true) := by kernel_rfl
theorem ldk24 : ldk Tryz.prog 24 = some none := by kernel_rfl
theorem tsize24 : tsize Tryz.prog 24 = some 1 := by kernel_rfl
theorem sliceT24 : sliceT Tryz.prog 24 = true := by kernel_rfl
theorem elm24 : elm Tryz.prog 24 = some (4, 1, 1) := by kernel_rfl
theorem zeroL24 : zeroL Tryz.prog 24 = some [.sl 0 0 (fun _ => .any) true] := by kernel_rfl
theorem zeroV24 : zeroV Tryz.prog 24 = some (.sl 0 0 (fun _ => .any) true) := by kernel_rfl
theorem ldk26 : ldk Tryz.prog 26 = some (some 2) := by kernel_rfl
theorem tsize26 : tsize Tryz.prog 26 = some 2 := by kernel_rfl
theorem fld26_0 : fld Tryz.prog 26 0 = some (0, 1, none) := by kernel_rfl
theorem bpl26_0 : bldPl Tryz.prog 26 0 = some (0, 1) := by kernel_rfl
theorem fld26_1 : fld Tryz.prog 26 1 = some (1, 1, none) := by kernel_rfl
theorem bpl26_1 : bldPl Tryz.prog 26 1 = some (1, 1) := by kernel_rfl
theorem bok26 : bldOk Tryz.prog 26 = true := by kernel_rfl
theorem zeroL26 : zeroL Tryz.prog 26 = some [.bool false, .sl 0 0 (fun _ => .any) true] := by kernel_rfl
theorem zeroV26 : zeroV Tryz.prog 26 = some (.agg [.bool false, .sl 0 0 (fun _ => .any) true]) := by kernel_rfl
theorem ldk28 : ldk Tryz.prog 28 = some (some 4) := by kernel_rfl
theorem tsize28 : tsize Tryz.prog 28 = some 4 := by kernel_rfl
theorem fld28_0 : fld Tryz.prog 28 0 = some (0, 2, some 2) := by kernel_rfl
theorem bpl28_0 : bldPl Tryz.prog 28 0 = some (0, 2) := by kernel_rfl
theorem fld28_1 : fld Tryz.prog 28 1 = some (2, 2, some 2) := by kernel_rfl
theorem bpl28_1 : bldPl Tryz.prog 28 1 = some (2, 2) := by kernel_rfl
theorem bok28 : bldOk Tryz.prog 28 = true := by kernel_rfl
theorem zeroL28 : zeroL Tryz.prog 28 = some [.bool false, .sl 0 0 (fun _ => .any) true, .bool false, .sl 0 0 (fun _ => .any) true] := by kernel_rfl
theorem zeroV28 : zeroV Tryz.prog 28 = some (.agg [.bool false, .sl 0 0 (fun _ => .any) true, .bool false, .sl 0 0 (fun _ => .any) true]) := by kernel_rfl
theorem ldk30 : ldk Tryz.prog 30 = some (some 25) := by kernel_rfl
theorem tsize30 : tsize Tryz.prog 30 = some 25 := by kernel_rfl
theorem fld30_0 : fld Tryz.prog 30 0 = some (0, 1, none) := by kernel_rfl
theorem bpl30_0 : bldPl Tryz.prog 30 0 = some (0, 1) := by kernel_rfl
theorem fld30_1 : fld Tryz.prog 30 1 = some (1, 1, none) := by kernel_rfl
theorem bpl30_1 : bldPl Tryz.prog 30 1 = some (1, 1) := by kernel_rfl
theorem fld30_2 : fld Tryz.prog 30 2 = some (2, 1, none) := by kernel_rfl
theorem bpl30_2 : bldPl Tryz.prog 30 2 = some (2, 1) := by kernel_rfl
theorem fld30_3 : fld Tryz.prog 30 3 = some (3, 1, none) := by kernel_rfl
theorem bpl30_3 : bldPl Tryz.prog 30 3 = some (3, 1) := by kernel_rfl
theorem fld30_4 : fld Tryz.prog 30 4 = some (4, 1, none) := by kernel_rfl
theorem bpl30_4 : bldPl Tryz.prog 30 4 = some (4, 1) := by kernel_rfl
theorem fld30_5 : fld Tryz.prog 30 5 = some (5, 4, some 4) := by kernel_rfl
theorem bpl30_5 : bldPl Tryz.prog 30 5 = some (5, 4) := by kernel_rfl
theorem fld30_6 : fld Tryz.prog 30 6 = some (9, 4, some 4) := by kernel_rfl
theorem bpl30_6 : bldPl Tryz.prog 30 6 = some (9, 4) := by kernel_rfl
theorem fld30_7 : fld Tryz.prog 30 7 = some (13, 4, some 4) := by kernel_rfl
theorem bpl30_7 : bldPl Tryz.prog 30 7 = some (13, 4) := by kernel_rfl
theorem fld30_8 : fld Tryz.prog 30 8 = some (17, 4, some 4) := by kernel_rfl
theorem bpl30_8 : bldPl Tryz.prog 30 8 = some (17, 4) := by kernel_rfl
theorem fld30_9 : fld Tryz.prog 30 9 = some (21, 4, some 4) := by kernel_rfl
theorem bpl30_9 : bldPl Tryz.prog 30 9 = some (21, 4) := by kernel_rfl
theorem bok30 : bldOk Tryz.prog 30 = true := by kernel_rfl
theorem zeroL30 : zeroL Tryz.prog 30 = some [.int .i64 0, .int .i64 0, .sl 0 0 (fun _ => .any) true, .sl 0 0 (fun _ => .any) true, .sl 0 0 (fun _ => .any) true, .bool false, .sl 0 0 (fun _ => .any) true, .bool false, .sl 0 0 (fun _ => .any) true, .bool false, .sl 0 0 (fun _ => .any) true, .bool false, .sl 0 0 (fun _ => .any) true, .bool false, .sl 0 0 (fun _ => .any) true, .bool false, .sl 0 0 (fun _ => .any) true, .bool false, .sl 0 0 (fun _ => .any) true, .bool false, .sl 0 0 (fun _ => .any) true, .bool false, .sl 0 0 (fun _ => .any) true, .bool false, .sl 0 0 (fun _ => .any) true] := by kernel_rfl
theorem zeroV30 : zeroV Tryz.prog 30 = some (.agg [.int .i64 0, .int .i64 0, .sl 0 0 (fun _ => .any) true, .sl 0 0 (fun _ => .any) true, .sl 0 0 (fun _ => .any) true, .bool false, .sl 0 0 (fun _ => .any) true, .bool false, .sl 0 0 (fun _ => .any) true, .bool false, .sl 0 0 (fun _ => .any) true, .bool false, .sl 0 0 (fun _ => .any) true, .bool false, .sl 0 0 (fun _ => .any) true, .bool false, .sl 0 0 (fun _ => .any) true, .bool false, .sl 0 0 (fun _ => .any) true, .bool false, .sl 0 0 (fun _ => .any) true, .bool false, .sl 0 0 (fun _ => .any) true, .bool false, .sl 0 0 (fun _ => .any) true]) := by kernel_rfl
theorem ldk35 : ldk Tryz.prog 35 = some none := by kernel_rfl
theorem tsize35 : tsize Tryz.prog 35 = some 1 := by kernel_rfl
theorem sliceT35 : sliceT Tryz.prog 35 = true := by kernel_rfl
theorem elm35 : elm Tryz.prog 35 = some (28, 4, 64) := by kernel_rfl
theorem zeroL35 : zeroL Tryz.prog 35 = some [.sl 0 0 (fun _ => .any) true] := by kernel_rfl
theorem zeroV35 : zeroV Tryz.prog 35 = some (.sl 0 0 (fun _ => .any) true) := by kernel_rfl
theorem ldk36 : ldk Tryz.prog 36 = some none := by kernel_rfl
theorem tsize36 : tsize Tryz.prog 36 = some 1 := by kernel_rfl
theorem ikd36 : ikd Tryz.prog 36 = some .i64 := by kernel_rfl
theorem zeroL36 : zeroL Tryz.prog 36 = some [.int .i64 0] := by kernel_rfl
theorem zeroV36 : zeroV Tryz.prog 36 = some (.int .i64 0) := by kernel_rfl
theorem ldk43 : ldk Tryz.prog 43 = some (some 50) := by kernel_rfl
theorem tsize43 : tsize Tryz.prog 43 = some 50 := by kernel_rfl
theorem elm43 : elm Tryz.prog 43 = none := by kernel_rfl
theorem bpl43_0 : bldPl Tryz.prog 43 0 = some (0, 25) := by kernel_rfl
theorem bpl43_1 : bldPl Tryz.prog 43 1 = some (25, 25) := by kernel_rfl
theorem bok43 : bldOk Tryz.prog 43 = true := by kernel_rfl
theorem arr43 : arr Tryz.prog 43 = some (2, 25, some 25) := by kernel_rfl
theorem zeroL43 : zeroL Tryz.prog 43 = some [.int .i64 0, .int .i64 0, .sl 0 0 (fun _ => .any) true, .sl 0 0 (fun _ => .any) true, .sl 0 0 (fun _ => .any) true, .bool false, .sl 0 0 (fun _ => .any) true, .bool false, .sl 0 0 (fun _ => .any) true, .bool false, .sl 0 0 (fun _ => .any) true, .bool false, .sl 0 0 (fun _ => .any) true, .bool false, .sl 0 0 (fun _ => .any) true, .bool false, .sl 0 0 (fun _ => .any) true, .bool false, .sl 0 0 (fun _ => .any) true, .bool false, .sl 0 0 (fun _ => .any) true, .bool false, .sl 0 0 (fun _ => .any) true, .bool false, .sl 0 0 (fun _ => .any) true, .int .i64 0, .int .i64 0, .sl 0 0 (fun _ => .any) true, .sl 0 0 (fun _ => .any) true, .sl 0 0 (fun _ => .any) true, .bool false, .sl 0 0 (fun _ => .any) true, .bool false, .sl 0 0 (fun _ => .any) true, .bool false, .sl 0 0 (fun _ => .any) true, .bool false, .sl 0 0 (fun _ => .any) true, .bool false, .sl 0 0 (fun _ => .any) true, .bool false, .sl 0 0 (fun _ => .any) true, .bool false, .sl 0 0 (fun _ => .any) true, .bool false, .sl 0 0 (fun _ => .any) true, .bool false, .sl 0 0 (fun _ => .any) true, .bool false, .sl 0 0 (fun _ => .any) true] := by kernel_rfl
theorem zeroV43 : zeroV Tryz.prog 43 = some (.agg [.int .i64 0, .int .i64 0, .sl 0 0 (fun _ => .any) true, .sl 0 0 (fun _ => .any) true, .sl 0 0 (fun _ => .any) true, .bool false, .sl 0 0 (fun _ => .any) true, .bool false, .sl 0 0 (fun _ => .any) true, .bool false, .sl 0 0 (fun _ => .any) true, .bool false, .sl 0 0 (fun _ => .any) true, .bool false, .sl 0 0 (fun _ => .any) true, .bool false, .sl 0 0 (fun _ => .any) true, .bool false, .sl 0 0 (fun _ => .any) true, .bool false, .sl 0 0 (fun _ => .any) true, .bool false, .sl 0 0 (fun _ => .any) true, .bool false, .sl 0 0 (fun _ => .any) true, .int .i64 0, .int .i64 0, .sl 0 0 (fun _ => .any) true, .sl 0 0 (fun _ => .any) true, .sl 0 0 (fun _ => .any) true, .bool false, .sl 0 0 (fun _ => .any) true, .bool false, .sl 0 0 (fun _ => .any) true, .bool false, .sl 0 0 (fun _ => .any) true, .bool false, .sl 0 0 (fun _ => .any) true, .bool false, .sl 0 0 (fun _ => .any) true, .bool false, .sl 0 0 (fun _ => .any) true, .bool false, .sl 0 0 (fun _ => .any) true, .bool false, .sl 0 0 (fun _ => .any) true, .bool false, .sl 0 0 (fun _ => .any) true, .bool false, .sl 0 0 (fun _ => .any) true]) := by kernel_rfl
theorem ldk44 : ldk Tryz.prog 44 = some none := by kernel_rfl
theorem tsize44 : tsize Tryz.prog 44 = some 1 := by kernel_rfl
theorem sliceT44 : sliceT Tryz.prog 44 = true := by kernel_rfl
theorem elm44 : elm Tryz.prog 44 = some (43, 50, 816) := by kernel_rfl
theorem zeroL44 : zeroL Tryz.prog 44 = some [.sl 0 0 (fun _ => .any) true] := by kernel_rfl
theorem zeroV44 : zeroV Tryz.prog 44 = some (.sl 0 0 (fun _ => .any) true) := by kernel_rfl
theorem ldk48 : ldk Tryz.prog 48 = some (some 8) := by kernel_rfl
theorem tsize48 : tsize Tryz.prog 48 = some 8 := by kernel_rfl
theorem fld48_0 : fld Tryz.prog 48 0 = some (0, 4, some 4) := by kernel_rfl
theorem bpl48_0 : bldPl Tryz.prog 48 0 = some (0, 4) := by kernel_rfl
theorem fld48_1 : fld Tryz.prog 48 1 = some (4, 4, some 4) := by kernel_rfl
theorem bpl48_1 : bldPl Tryz.prog 48 1 = some (4, 4) := by kernel_rfl
theorem bok48 : bldOk Tryz.prog 48 = true := by kernel_rfl
theorem zeroL48 : zeroL Tryz.prog 48 = some [.bool false, .sl 0 0 (fun _ => .any) true, .bool false, .sl 0 0 (fun _ => .any) true, .bool false, .sl 0 0 (fun _ => .any) true, .bool false, .sl 0 0 (fun _ => .any) true] := by kernel_rfl
theorem zeroV48 : zeroV Tryz.prog 48 = some (.agg [.bool false, .sl 0 0 (fun _ => .any) true, .bool false, .sl 0 0 (fun _ => .any) true, .bool false, .sl 0 0 (fun _ => .any) true, .bool false, .sl 0 0 (fun _ => .any) true]) := by kernel_rfl
theorem ldk50 : ldk Tryz.prog 50 = some (some 8) := by kernel_rfl
theorem tsize50 : tsize Tryz.prog 50 = some 8 := by kernel_rfl
theorem fld50_0 : fld Tryz.prog 50 0 = some (0, 4, some 4) := by kernel_rfl
theorem bpl50_0 : bldPl Tryz.prog 50 0 = some (0, 4) := by kernel_rfl
theorem fld50_1 : fld Tryz.prog 50 1 = some (4, 4, some 4) := by kernel_rfl
theorem bpl50_1 : bldPl Tryz.prog 50 1 = some (4, 4) := by kernel_rfl
theorem bok50 : bldOk Tryz.prog 50 = true := by kernel_rfl
theorem zeroL50 : zeroL Tryz.prog 50 = some [.bool false, .sl 0 0 (fun _ => .any) true, .bool false, .sl 0 0 (fun _ => .any) true, .bool false, .sl 0 0 (fun _ => .any) true, .bool false, .sl 0 0 (fun _ => .any) true] := by kernel_rfl
theorem zeroV50 : zeroV Tryz.prog 50 = some (.agg [.bool false, .sl 0 0 (fun _ => .any) true, .bool false, .sl 0 0 (fun _ => .any) true, .bool false, .sl 0 0 (fun _ => .any) true, .bool false, .sl 0 0 (fun _ => .any) true]) := by kernel_rfl
theorem ldk52 : ldk Tryz.prog 52 = some (some 29) := by kernel_rfl
theorem tsize52 : tsize Tryz.prog 52 = some 29 := by kernel_rfl
theorem fld52_0 : fld Tryz.prog 52 0 = some (0, 1, none) := by kernel_rfl
theorem bpl52_0 : bldPl Tryz.prog 52 0 = some (0, 1) := by kernel_rfl
theorem fld52_1 : fld Tryz.prog 52 1 = some (1, 1, none) := by kernel_rfl
theorem bpl52_1 : bldPl Tryz.prog 52 1 = some (1, 1) := by kernel_rfl
theorem fld52_2 : fld Tryz.prog 52 2 = some (2, 1, none) := by kernel_rfl
theorem bpl52_2 : bldPl Tryz.prog 52 2 = some (2, 1) := by kernel_rfl
theorem fld52_3 : fld Tryz.prog 52 3 = some (3, 1, none) := by kernel_rfl
theorem bpl52_3 : bldPl Tryz.prog 52 3 = some (3, 1) := by kernel_rfl
theorem fld52_4 : fld Tryz.prog 52 4 = some (4, 1, none) := by kernel_rfl
theorem bpl52_4 : bldPl Tryz.prog 52 4 = some (4, 1) := by kernel_rfl
theorem fld52_5 : fld Tryz.prog 52 5 = some (5, 8, some 8) := by kernel_rfl
theorem bpl52_5 : bldPl Tryz.prog 52 5 = some (5, 8) := by kernel_rfl
theorem fld52_6 : fld Tryz.prog 52 6 = some (13, 8, some 8) := by kernel_rfl
theorem bpl52_6 : bldPl Tryz.prog 52 6 = some (13, 8) := by kernel_rfl
theorem fld52_7 : fld Tryz.prog 52 7 = some (21, 8, some 8) := by kernel_rfl
theorem bpl52_7 : bldPl Tryz.prog 52 7 = some (21, 8) := by kernel_rfl
theorem bok52 : bldOk Tryz.prog 52 = true := by kernel_rfl
theorem zeroL52 : zeroL Tryz.prog 52 = some [.int .i64 0, .int .i64 0, .int .i64 0, .int .i64 0, .int .i64 0, .bool false, .sl 0 0 (fun _ => .any) true, .bool false, .sl 0 0 (fun _ => .any) true, .bool false, .sl 0 0 (fun _ => .any) true, .bool false, .sl 0 0 (fun _ => .any) true, .bool false, .sl 0 0 (fun _ => .any) true, .bool false, .sl 0 0 (fun _ => .any) true, .bool false, .sl 0 0 (fun _ => .any) true, .bool false, .sl 0 0 (fun _ => .any) true, .bool false, .sl 0 0 (fun _ => .any) true, .bool false, .sl 0 0 (fun _ => .any) true, .bool false, .sl 0 0 (fun _ => .any) true, .bool false, .sl 0 0 (fun _ => .any) true] := by kernel_rfl
theorem zeroV52 : zeroV Tryz.prog 52 = some (.agg [.int .i64 0, .int .i64 0, .int .i64 0, .int .i64 0, .int .i64 0, .bool false, .sl 0 0 (fun _ => .any) true, .bool false, .sl 0 0 (fun _ => .any) true, .bool false, .sl 0 0 (fun _ => .any) true, .bool false, .sl 0 0 (fun _ => .any) true, .bool false, .sl 0 0 (fun _ => .any) true, .bool false, .sl 0 0 (fun _ => .any) true, .bool false, .sl 0 0 (fun _ => .any) true, .bool false, .sl 0 0 (fun _ => .any) true, .bool false, .sl 0 0 (fun _ => .any) true, .bool false, .sl 0 0 (fun _ => .any) true, .bool false, .sl 0 0 (fun _ => .any) true, .bool false, .sl 0 0 (fun _ => .any) true]) := by kernel_rfl
theorem ldk54 : ldk Tryz.prog 54 = some (some 79) := by kernel_rfl
theorem tsize54 : tsize Tryz.prog 54 = some 79 := by kernel_rfl
theorem fld54_0 : fld Tryz.prog 54 0 = some (0, 25, some 25) := by kernel_rfl
theorem bpl54_0 : bldPl Tryz.prog 54 0 = some (0, 25) := by kernel_rfl
theorem fld54_1 : fld Tryz.prog 54 1 = some (25, 25, some 25) := by kernel_rfl
theorem bpl54_1 : bldPl Tryz.prog 54 1 = some (25, 25) := by kernel_rfl
theorem fld54_2 : fld Tryz.prog 54 2 = some (50, 29, some 29) := by kernel_rfl
theorem bpl54_2 : bldPl Tryz.prog 54 2 = some (50, 29) := by kernel_rfl
theorem bok54 : bldOk Tryz.prog 54 = true := by kernel_rfl
theorem zeroL54 : zeroL Tryz.prog 54 = some [.int .i64 0, .int .i64 0, .sl 0 0 (fun _ => .any) true, .sl 0 0 (fun _ => .any) true, .sl 0 0 (fun _ => .any) true, .bool false, .sl 0 0 (fun _ => .any) true, .bool false, .sl 0 0 (fun _ => .any) true, .bool false, .sl 0 0 (fun _ => .any) true, .bool false, .sl 0 0 (fun _ => .any) true, .bool false, .sl 0 0 (fun _ => .any) true, .bool false, .sl 0 0 (fun _ => .any) true, .bool false, .sl 0 0 (fun _ => .any) true, .bool false, .sl 0 0 (fun _ => .any) true, .bool false, .sl 0 0 (fun _ => .any) true, .bool false, .sl 0 0 (fun _ => .any) true, .int .i64 0, .int .i64 0, .sl 0 0 (fun _ => .any) true, .sl 0 0 (fun _ => .any) true, .sl 0 0 (fun _ => .any) true, .bool false, .sl 0 0 (fun _ => .any) true, .bool false, .sl 0 0 (fun _ => .any) true, .bool false, .sl 0 0 (fun _ => .any) true, .bool false, .sl 0 0 (fun _ => .any) true, .bool false, .sl 0 0 (fun _ => .any) true, .bool false, .sl 0 0 (fun _ => .any) true, .bool false, .sl 0 0 (fun _ => .any) true, .bool false, .sl 0 0 (fun _ => .any) true, .bool false, .sl 0 0 (fun _ => .any) true, .bool false, .sl 0 0 (fun _ => .any) true, .int .i64 0, .int .i64 0, .int .i64 0, .int .i64 0, .int .i64 0, .bool false, .sl 0 0 (fun _ => .any) true, .bool false, .sl 0 0 (fun _ => .any) true, .bool false, .sl 0 0 (fun _ => .any) true, .bool false, .sl 0 0 (fun _ => .any) true, .bool false, .sl 0 0 (fun _ => .any) true, .bool false, .sl 0 0 (fun _ => .any) true, .bool false, .sl 0 0 (fun _ => .any) true, .bool false, .sl 0 0 (fun _ => .any) true, .bool false, .sl 0 0 (fun _ => .any) true, .bool false, .sl 0 0 (fun _ => .any) true, .bool false, .sl 0 0 (fun _ => .any) true, .bool false, .sl 0 0 (fun _ => .any) true] := by kernel_rfl
theorem zeroV54 : zeroV Tryz.prog 54 = some (.agg [.int .i64 0, .int .i64 0, .sl 0 0 (fun _ => .any) true, .sl 0 0 (fun _ => .any) true, .sl 0 0 (fun _ => .any) true, .bool false, .sl 0 0 (fun _ => .any) true, .bool false, .sl 0 0 (fun _ => .any) true, .bool false, .sl 0 0 (fun _ => .any) true, .bool false, .sl 0 0 (fun _ => .any) true, .bool false, .sl 0 0 (fun _ => .any) true, .bool false, .sl 0 0 (fun _ => .any) true, .bool false, .sl 0 0 (fun _ => .any) true, .bool false, .sl 0 0 (fun _ => .any) true, .bool false, .sl 0 0 (fun _ => .any) true, .bool false, .sl 0 0 (fun _ => .any) true, .int .i64 0, .int .i64 0, .sl 0 0 (fun _ => .any) true, .sl 0 0 (fun _ => .any) true, .sl 0 0 (fun _ => .any) true, .bool false, .sl 0 0 (fun _ => .any) true, .bool false, .sl 0 0 (fun _ => .any) true, .bool false, .sl 0 0 (fun _ => .any) true, .bool false, .sl 0 0 (fun _ => .any) true, .bool false, .sl 0 0 (fun _ => .any) true, .bool false, .sl 0 0 (fun _ => .any) true, .bool false, .sl 0 0 (fun _ => .any) true, .bool false, .sl 0 0 (fun _ => .any) true, .bool false, .sl 0 0 (fun _ => .any) true, .bool false, .sl 0 0 (fun _ => .any) true, .int .i64 0, .int .i64 0, .int .i64 0, .int .i64 0, .int .i64 0, .bool false, .sl 0 0 (fun _ => .any) true, .bool false, .sl 0 0 (fun _ => .any) true, .bool false, .sl 0 0 (fun _ => .any) true, .bool false, .sl 0 0 (fun _ => .any) true, .bool false, .sl 0 0 (fun _ => .any) true, .bool false, .sl 0 0 (fun _ => .any) true, .bool false, .sl 0 0 (fun _ => .any) true, .bool false, .sl 0 0 (fun _ => .any) true, .bool false, .sl 0 0 (fun _ => .any) true, .bool false, .sl 0 0 (fun _ => .any) true, .bool false, .sl 0 0 (fun _ => .any) true, .bool false, .sl 0 0 (fun _ => .any) true]) := by kernel_rfl
theorem ldk57 : ldk Tryz.prog 57 = some none := by kernel_rfl
theorem tsize57 : tsize Tryz.prog 57 = some 1 := by kernel_rfl
theorem sliceT57 : sliceT Tryz.prog 57 = true := by kernel_rfl
theorem elm57 : elm Tryz.prog 57 = some (52, 29, 424) := by kernel_rfl
theorem zeroL57 : zeroL Tryz.prog 57 = some [.sl 0 0 (fun _ => .any) true] := by kernel_rfl
theorem zeroV57 : zeroV Tryz.prog 57 = some (.sl 0 0 (fun _ => .any) true) := by kernel_rfl
theorem ldk69 : ldk Tryz.prog 69 = some none := by kernel_rfl
theorem tsize69 : tsize Tryz.prog 69 = some 1 := by kernel_rfl
theorem zeroL69 : zeroL Tryz.prog 69 = some [.nilfn] := by kernel_rfl
theorem zeroV69 : zeroV Tryz.prog 69 = some (.nilfn) := by kernel_rfl
theorem ldk70 : ldk Tryz.prog 70 = some none := by kernel_rfl
theorem tsize70 : tsize Tryz.prog 70 = some 1 := by kernel_rfl
theorem zeroL70 : zeroL Tryz.prog 70 = some [.nilfn] := by kernel_rfl
theorem zeroV70 : zeroV Tryz.prog 70 = some (.nilfn) := by kernel_rfl
theorem ldk81 : ldk Tryz.prog 81 = some none := by kernel_rfl
theorem tsize81 : tsize Tryz.prog 81 = some 1 := by kernel_rfl
theorem sliceT81 : sliceT Tryz.prog 81 = true := by kernel_rfl
theorem elm81 : elm Tryz.prog 81 = some (50, 8, 128) := by kernel_rfl
theorem zeroL81 : zeroL Tryz.prog 81 = some [.sl 0 0 (fun _ => .any) true] := by kernel_rfl
theorem zeroV81 : zeroV Tryz.prog 81 = some (.sl 0 0 (fun _ => .any) true) := by kernel_rfl
theorem ldk84 : ldk Tryz.prog 84 = some (some 16) := by kernel_rfl
theorem tsize84 : tsize Tryz.prog 84 = some 16 := by kernel_rfl
theorem fld84_0 : fld Tryz.prog 84 0 = some (0, 8, some 8) := by kernel_rfl
theorem bpl84_0 : bldPl Tryz.prog 84 0 = some (0, 8) := by kernel_rfl
theorem fld84_1 : fld Tryz.prog 84 1 = some (8, 8, some 8) := by kernel_rfl
theorem bpl84_1 : bldPl Tryz.prog 84 1 = some (8, 8) := by kernel_rfl
theorem bok84 : bldOk Tryz.prog 84 = true := by kernel_rfl
theorem zeroL84 : zeroL Tryz.prog 84 = some [.bool false, .sl 0 0 (fun _ => .any) true, .bool false, .sl 0 0 (fun _ => .any) true, .bool false, .sl 0 0 (fun _ => .any) true, .bool false, .sl 0 0 (fun _ => .any) true, .bool false, .sl 0 0 (fun _ => .any) true, .bool false, .sl 0 0 (fun _ => .any) true, .bool false, .sl 0 0 (fun _ => .any) true, .bool false, .sl 0 0 (fun _ => .any) true] := by kernel_rfl
theorem zeroV84 : zeroV Tryz.prog 84 = some (.agg [.bool false, .sl 0 0 (fun _ => .any) true, .bool false, .sl 0 0 (fun _ => .any) true, .bool false, .sl 0 0 (fun _ => .any) true, .bool false, .sl 0 0 (fun _ => .any) true, .bool false, .sl 0 0 (fun _ => .any) true, .bool false, .sl 0 0 (fun _ => .any) true, .bool false, .sl 0 0 (fun _ => .any) true, .bool false, .sl 0 0 (fun _ => .any) true]) := by kernel_rfl
theorem ldk110 : ldk Tryz.prog 110 = some (some 2) := by kernel_rfl
theorem tsize110 : tsize Tryz.prog 110 = some 2 := by kernel_rfl
theorem fld110_0 : fld Tryz.prog 110 0 = some (0, 1, none) := by kernel_rfl
theorem bpl110_0 : bldPl Tryz.prog 110 0 = some (0, 1) := by kernel_rfl
theorem fld110_1 : fld Tryz.prog 110 1 = some (1, 1, none) := by kernel_rfl
theorem bpl110_1 : bldPl Tryz.prog 110 1 = some (1, 1) := by kernel_rfl
theorem bok110 : bldOk Tryz.prog 110 = true := by kernel_rfl
theorem seqT110 : seqT Tryz.prog 110 2 = true := by kernel_rfl
theorem zeroL110 : zeroL Tryz.prog 110 = some [.int .i64 0, .int .i64 0] := by kernel_rfl
theorem zeroV110 : zeroV Tryz.prog 110 = some (.agg [.int .i64 0, .int .i64 0]) := by kernel_rfl
theorem ldk114 : ldk Tryz.prog 114 = some (some 20) := by kernel_rfl
theorem tsize114 : tsize Tryz.prog 114 = some 20 := by kernel_rfl
theorem elm114 : elm Tryz.prog 114 = none := by kernel_rfl
theorem bpl114_0 : bldPl Tryz.prog 114 0 = some (0, 4) := by kernel_rfl
theorem bpl114_1 : bldPl Tryz.prog 114 1 = some (4, 4) := by kernel_rfl
theorem bpl114_2 : bldPl Tryz.prog 114 2 = some (8, 4) := by kernel_rfl
theorem bpl114_3 : bldPl Tryz.prog 114 3 = some (12, 4) := by kernel_rfl
theorem bpl114_4 : bldPl Tryz.prog 114 4 = some (16, 4) := by kernel_rfl
theorem bok114 : bldOk Tryz.prog 114 = true := by kernel_rfl
theorem arr114 : arr Tryz.prog 114 = some (5, 4, some 4) := by kernel_rfl
theorem zeroL114 : zeroL Tryz.prog 114 = some [.bool false, .sl 0 0 (fun _ => .any) true, .bool false, .sl 0 0 (fun _ => .any) true, .bool false, .sl 0 0 (fun _ => .any) true, .bool false, .sl 0 0 (fun _ => .any) true, .bool false, .sl 0 0 (fun _ => .any) true, .bool false, .sl 0 0 (fun _ => .any) true, .bool false, .sl 0 0 (fun _ => .any) true, .bool false, .sl 0 0 (fun _ => .any) true, .bool false, .sl 0 0 (fun _ => .any) true, .bool false, .sl 0 0 (fun _ => .any) true] := by kernel_rfl
theorem zeroV114 : zeroV Tryz.prog 114 = some (.agg [.bool false, .sl 0 0 (fun _ => .any) true, .bool false, .sl 0 0 (fun _ => .any) true, .bool false, .sl 0 0 (fun _ => .any) true, .bool false, .sl 0 0 (fun _ => .any) true, .bool false, .sl 0 0 (fun _ => .any) true, .bool false, .sl 0 0 (fun _ => .any) true, .bool false, .sl 0 0 (fun _ => .any) true, .bool false, .sl 0 0 (fun _ => .any) true, .bool false, .sl 0 0 (fun _ => .any) true, .bool false, .sl 0 0 (fun _ => .any) true]) := by kernel_rfl
theorem ldk120 : ldk Tryz.prog 120 = some none := by kernel_rfl
theorem tsize120 : tsize Tryz.prog 120 = some 1 := by kernel_rfl
theorem sliceT120 : sliceT Tryz.prog 120 = true := by kernel_rfl
theorem elm120 : elm Tryz.prog 120 = some (183, 3, 24) := by kernel_rfl
theorem zeroL120 : zeroL Tryz.prog 120 = some [.sl 0 0 (fun _ => .any) true] := by kernel_rfl
theorem zeroV120 : zeroV Tryz.prog 120 = some (.sl 0 0 (fun _ => .any) true) := by kernel_rfl
theorem ldk122 : ldk Tryz.prog 122 = some (some 2) := by kernel_rfl
theorem tsize122 : tsize Tryz.prog 122 = some 2 := by kernel_rfl
theorem elm122 : elm Tryz.prog 122 = none := by kernel_rfl
theorem bpl122_0 : bldPl Tryz.prog 122 0 = some (0, 1) := by kernel_rfl
theorem bpl122_1 : bldPl Tryz.prog 122 1 = some (1, 1) := by kernel_rfl
theorem bok122 : bldOk Tryz.prog 122 = true := by kernel_rfl
theorem arr122 : arr Tryz.prog 122 = some (2, 1, none) := by kernel_rfl
theorem zeroL122 : zeroL Tryz.prog 122 = some [.int .i64 0, .int .i64 0] := by kernel_rfl
theorem zeroV122 : zeroV Tryz.prog 122 = some (.agg [.int .i64 0, .int .i64 0]) := by kernel_rfl
theorem ldk123 : ldk Tryz.prog 123 = some none := by kernel_rfl
theorem tsize123 : tsize Tryz.prog 123 = some 1 := by kernel_rfl
theorem sliceT123 : sliceT Tryz.prog 123 = true := by kernel_rfl
theorem elm123 : elm Tryz.prog 123 = some (122, 2, 16) := by kernel_rfl
theorem zeroL123 : zeroL Tryz.prog 123 = some [.sl 0 0 (fun _ => .any) true] := by kernel_rfl
theorem zeroV123 : zeroV Tryz.prog 123 = some (.sl 0 0 (fun _ => .any) true) := by kernel_rfl
theorem ldk125 : ldk Tryz.prog 125 = some (some 3) := by kernel_rfl
theorem tsize125 : tsize Tryz.prog 125 = some 3 := by kernel_rfl
theorem fld125_0 : fld Tryz.prog 125 0 = some (0, 1, none) := by kernel_rfl
theorem bpl125_0 : bldPl Tryz.prog 125 0 = some (0, 1) := by kernel_rfl
theorem fld125_1 : fld Tryz.prog 125 1 = some (1, 1, none) := by kernel_rfl
theorem bpl125_1 : bldPl Tryz.prog 125 1 = some (1, 1) := by kernel_rfl
theorem fld125_2 : fld Tryz.prog 125 2 = some (2, 1, none) := by kernel_rfl
theorem bpl125_2 : bldPl Tryz.prog 125 2 = some (2, 1) := by kernel_rfl
theorem bok125 : bldOk Tryz.prog 125 = true := by kernel_rfl
theorem seqT125 : seqT Tryz.prog 125 3 = true := by kernel_rfl
theorem zeroL125 : zeroL Tryz.prog 125 = some [.int .i64 0, .int .i64 0, .int .i64 0] := by kernel_rfl
theorem zeroV125 : zeroV Tryz.prog 125 = some (.agg [.int .i64 0, .int .i64 0, .int .i64 0]) := by kernel_rfl
theorem ldk126 : ldk Tryz.prog 126 = some none := by kernel_rfl
theorem tsize126 : tsize Tryz.prog 126 = some 1 := by kernel_rfl
theorem sliceT126 : sliceT Tryz.prog 126 = true := by kernel_rfl
theorem elm126 : elm Tryz.prog 126 = some (125, 3, 24) := by kernel_rfl
theorem zeroL126 : zeroL Tryz.prog 126 = some [.sl 0 0 (fun _ => .any) true] := by kernel_rfl
theorem zeroV126 : zeroV Tryz.prog 126 = some (.sl 0 0 (fun _ => .any) true) := by kernel_rfl
theorem ldk134 : ldk Tryz.prog 134 = some none := by kernel_rfl
theorem tsize134 : tsize Tryz.prog 134 = some 1 := by kernel_rfl
theorem zeroL134 : zeroL Tryz.prog 134 = some [.nilfn] := by kernel_rfl
theorem zeroV134 : zeroV Tryz.prog 134 = some (.nilfn) := by kernel_rfl
theorem ldk143 : ldk Tryz.prog 143 = some none := by kernel_rfl
theorem tsize143 : tsize Tryz.prog 143 = some 1 := by kernel_rfl
theorem zeroL143 : zeroL Tryz.prog 143 = some [.nilfn] := by kernel_rfl
theorem zeroV143 : zeroV Tryz.prog 143 = some (.nilfn) := by kernel_rfl
theorem ldk145 : ldk Tryz.prog 145 = some none := by kernel_rfl
theorem tsize145 : tsize Tryz.prog 145 = some 1 := by kernel_rfl
theorem zeroL145 : zeroL Tryz.prog 145 = some [.nilfn] := by kernel_rfl
theorem zeroV145 : zeroV Tryz.prog 145 = some (.nilfn) := by kernel_rfl
theorem ldk146 : ldk Tryz.prog 146 = some none := by kernel_rfl
theorem tsize146 : tsize Tryz.prog 146 = some 1 := by kernel_rfl
theorem zeroL146 : zeroL Tryz.prog 146 = some [.nilfn] := by kernel_rfl
theorem zeroV146 : zeroV Tryz.prog 146 = some (.nilfn) := by kernel_rfl
theorem ldk148 : ldk Tryz.prog 148 = some none := by kernel_rfl
theorem tsize148 : tsize Tryz.prog 148 = some 1 := by kernel_rfl
theorem sliceT148 : sliceT Tryz.prog 148 = true := by kernel_rfl
theorem elm148 : elm Tryz.prog 148 = some (48, 8, 128) := by kernel_rfl
theorem zeroL148 : zeroL Tryz.prog 148 = some [.sl 0 0 (fun _ => .any) true] := by kernel_rfl
theorem zeroV148 : zeroV Tryz.prog 148 = some (.sl 0 0 (fun _ => .any) true) := by kernel_rfl
theorem ldk151 : ldk Tryz.prog 151 = some none := by kernel_rfl
theorem tsize151 : tsize Tryz.prog 151 = some 1 := by kernel_rfl
theorem zeroL151 : zeroL Tryz.prog 151 = some [.nilfn] := by kernel_rfl
theorem zeroV151 : zeroV Tryz.prog 151 = some (.nilfn) := by kernel_rfl
theorem ldk154 : ldk Tryz.prog 154 = some none := by kernel_rfl
theorem tsize154 : tsize Tryz.prog 154 = some 1 := by kernel_rfl
theorem zeroL154 : zeroL Tryz.prog 154 = some [.nilfn] := by kernel_rfl
theorem zeroV154 : zeroV Tryz.prog 154 = some (.nilfn) := by kernel_rfl
theorem ldk156 : ldk Tryz.prog 156 = some none := by kernel_rfl
theorem tsize156 : tsize Tryz.prog 156 = some 1 := by kernel_rfl
theorem zeroL156 : zeroL Tryz.prog 156 = some [.nilfn] := by kernel_rfl
theorem zeroV156 : zeroV Tryz.prog 156 = some (.nilfn) := by kernel_rfl
theorem ldk164 : ldk Tryz.prog 164 = some none := by kernel_rfl
theorem tsize164 : tsize Tryz.prog 164 = some 1 := by kernel_rfl
theorem zeroL164 : zeroL Tryz.prog 164 = some [.nilfn] := by kernel_rfl
theorem zeroV164 : zeroV Tryz.prog 164 = some (.nilfn) := by kernel_rfl
theorem ldk165 : ldk Tryz.prog 165 = some none := by kernel_rfl
theorem tsize165 : tsize Tryz.prog 165 = some 1 := by kernel_rfl
theorem zeroL165 : zeroL Tryz.prog 165 = some [.nilfn] := by kernel_rfl
theorem zeroV165 : zeroV Tryz.prog 165 = some (.nilfn) := by kernel_rfl
theorem ldk177 : ldk Tryz.prog 177 = some none := by kernel_rfl
theorem tsize177 : tsize Tryz.prog 177 = some 1 := by kernel_rfl
theorem zeroL177 : zeroL Tryz.prog 177 = some [.nilfn] := by kernel_rfl
theorem zeroV177 : zeroV Tryz.prog 177 = some (.nilfn) := by kernel_rfl
theorem ldk181 : ldk Tryz.prog 181 = some none := by kernel_rfl
theorem tsize181 : tsize Tryz.prog 181 = some 1 := by kernel_rfl
theorem mapT181 : mapT Tryz.prog 181 = some (3, 3) := by kernel_rfl
theorem zeroL181 : zeroL Tryz.prog 181 = some [.nilmap] := by kernel_rfl
theorem zeroV181 : zeroV Tryz.prog 181 = some (.nilmap) := by kernel_rfl
theorem ldk183 : ldk Tryz.prog 183 = some (some 3) := by kernel_rfl
theorem tsize183 : tsize Tryz.prog 183 = some 3 := by kernel_rfl
theorem fld183_0 : fld Tryz.prog 183 0 = some (0, 1, none) := by kernel_rfl
theorem bpl183_0 : bldPl Tryz.prog 183 0 = some (0, 1) := by kernel_rfl
theorem fld183_1 : fld Tryz.prog 183 1 = some (1, 1, none) := by kernel_rfl
theorem bpl183_1 : bldPl Tryz.prog 183 1 = some (1, 1) := by kernel_rfl
theorem fld183_2 : fld Tryz.prog 183 2 = some (2, 1, none) := by kernel_rfl
theorem bpl183_2 : bldPl Tryz.prog 183 2 = some (2, 1) := by kernel_rfl
theorem bok183 : bldOk Tryz.prog 183 = true := by kernel_rfl
theorem seqT183 : seqT Tryz.prog 183 3 = true := by kernel_rfl
theorem zeroL183 : zeroL Tryz.prog 183 = some [.int .i64 0, .int .i64 0, .int .i64 0] := by kernel_rfl
theorem zeroV183 : zeroV Tryz.prog 183 = some (.agg [.int .i64 0, .int .i64 0, .int .i64 0]) := by kernel_rfl
theorem ldk184 : ldk Tryz.prog 184 = some none := by kernel_rfl
theorem tsize184 : tsize Tryz.prog 184 = some 1 := by kernel_rfl
theorem zeroL184 : zeroL Tryz.prog 184 = some [.nilfn] := by kernel_rfl
theorem zeroV184 : zeroV Tryz.prog 184 = some (.nilfn) := by kernel_rfl
theorem ldk187 : ldk Tryz.prog 187 = some none := by kernel_rfl
theorem tsize187 : tsize Tryz.prog 187 = some 1 := by kernel_rfl
theorem ikd187 : ikd Tryz.prog 187 = some .u64 := by kernel_rfl
theorem zeroL187 : zeroL Tryz.prog 187 = some [.int .u64 0] := by kernel_rfl
theorem zeroV187 : zeroV Tryz.prog 187 = some (.int .u64 0) := by kernel_rfl
theorem ldk191 : ldk Tryz.prog 191 = some none := by kernel_rfl
theorem tsize191 : tsize Tryz.prog 191 = some 1 := by kernel_rfl
theorem sliceT191 : sliceT Tryz.prog 191 = true := by kernel_rfl
theorem elm191 : elm Tryz.prog 191 = some (81, 1, 24) := by kernel_rfl
theorem zeroL191 : zeroL Tryz.prog 191 = some [.sl 0 0 (fun _ => .any) true] := by kernel_rfl
theorem zeroV191 : zeroV Tryz.prog 191 = some (.sl 0 0 (fun _ => .any) true) := by kernel_rfl
theorem ldk197 : ldk Tryz.prog 197 = some none := by kernel_rfl
theorem tsize197 : tsize Tryz.prog 197 = some 1 := by kernel_rfl
theorem ikd197 : ikd Tryz.prog 197 = some .u64 := by kernel_rfl
theorem zeroL197 : zeroL Tryz.prog 197 = some [.int .u64 0] := by kernel_rfl
theorem zeroV197 : zeroV Tryz.prog 197 = some (.int .u64 0) := by kernel_rfl
theorem ldk205 : ldk Tryz.prog 205 = some none := by kernel_rfl
theorem tsize205 : tsize Tryz.prog 205 = some 1 := by kernel_rfl
theorem zeroL205 : zeroL Tryz.prog 205 = some [.nilfn] := by kernel_rfl
theorem zeroV205 : zeroV Tryz.prog 205 = some (.nilfn) := by kernel_rfl
theorem ldk211 : ldk Tryz.prog 211 = some none := by kernel_rfl
theorem tsize211 : tsize Tryz.prog 211 = some 1 := by kernel_rfl
theorem ikd211 : ikd Tryz.prog 211 = some .i64 := by kernel_rfl
theorem zeroL211 : zeroL Tryz.prog 211 = some [.int .i64 0] := by kernel_rfl
theorem zeroV211 : zeroV Tryz.prog 211 = some (.int .i64 0) := by kernel_rfl
theorem ldk218 : ldk Tryz.prog 218 = some none := by kernel_rfl
theorem tsize218 : tsize Tryz.prog 218 = some 1 := by kernel_rfl
theorem ikd218 : ikd Tryz.prog 218 = some .u32 := by kernel_rfl
theorem zeroL218 : zeroL Tryz.prog 218 = some [.int .u32 0] := by kernel_rfl
theorem zeroV218 : zeroV Tryz.prog 218 = some (.int .u32 0) := by kernel_rfl
theorem ldk220 : ldk Tryz.prog 220 = some none := by kernel_rfl
theorem tsize220 : tsize Tryz.prog 220 = some 1 := by kernel_rfl
theorem zeroL220 : zeroL Tryz.prog 220 = some [.nilfn] := by kernel_rfl
theorem zeroV220 : zeroV Tryz.prog 220 = some (.nilfn) := by kernel_rfl
theorem ldk221 : ldk Tryz.prog 221 = some none := by kernel_rfl
theorem tsize221 : tsize Tryz.prog 221 = some 1 := by kernel_rfl
theorem zeroL221 : zeroL Tryz.prog 221 = some [.nilfn] := by kernel_rfl
theorem zeroV221 : zeroV Tryz.prog 221 = some (.nilfn) := by kernel_rfl
theorem ldk232 : ldk Tryz.prog 232 = some none := by kernel_rfl
theorem tsize232 : tsize Tryz.prog 232 = some 1 := by kernel_rfl
theorem ikd232 : ikd Tryz.prog 232 = some .u64 := by kernel_rfl
theorem zeroL232 : zeroL Tryz.prog 232 = some [.int .u64 0] := by kernel_rfl
theorem zeroV232 : zeroV Tryz.prog 232 = some (.int .u64 0) := by kernel_rfl
theorem ldk236 : ldk Tryz.prog 236 = some none := by kernel_rfl
theorem tsize236 : tsize Tryz.prog 236 = some 1 := by kernel_rfl
theorem ptrT236 : ptrT Tryz.prog 236 = true := by kernel_rfl
theorem zeroL236 : zeroL Tryz.prog 236 = some [.nil] := by kernel_rfl
theorem zeroV236 : zeroV Tryz.prog 236 = some (.nil) := by kernel_rfl
theorem ldk238 : ldk Tryz.prog 238 = some none := by kernel_rfl
theorem tsize238 : tsize Tryz.prog 238 = some 1 := by kernel_rfl
theorem zeroL238 : zeroL Tryz.prog 238 = some [.nilfn] := by kernel_rfl
theorem zeroV238 : zeroV Tryz.prog 238 = some (.nilfn) := by kernel_rfl
theorem ldk241 : ldk Tryz.prog 241 = some none := by kernel_rfl
theorem tsize241 : tsize Tryz.prog 241 = some 1 := by kernel_rfl
theorem sliceT241 : sliceT Tryz.prog 241 = true := by kernel_rfl
theorem elm241 : elm Tryz.prog 241 = some (244, 3, 24) := by kernel_rfl
theorem zeroL241 : zeroL Tryz.prog 241 = some [.sl 0 0 (fun _ => .any) true] := by kernel_rfl
theorem zeroV241 : zeroV Tryz.prog 241 = some (.sl 0 0 (fun _ => .any) true) := by kernel_rfl
theorem ldk244 : ldk Tryz.prog 244 = some (some 3) := by kernel_rfl
theorem tsize244 : tsize Tryz.prog 244 = some 3 := by kernel_rfl
theorem elm244 : elm Tryz.prog 244 = none := by kernel_rfl
theorem bpl244_0 : bldPl Tryz.prog 244 0 = some (0, 1) := by kernel_rfl
theorem bpl244_1 : bldPl Tryz.prog 244 1 = some (1, 1) := by kernel_rfl
theorem bpl244_2 : bldPl Tryz.prog 244 2 = some (2, 1) := by kernel_rfl
theorem bok244 : bldOk Tryz.prog 244 = true := by kernel_rfl
theorem arr244 : arr Tryz.prog 244 = some (3, 1, none) := by kernel_rfl
theorem zeroL244 : zeroL Tryz.prog 244 = some [.int .i64 0, .int .i64 0, .int .i64 0] := by kernel_rfl
theorem zeroV244 : zeroV Tryz.prog 244 = some (.agg [.int .i64 0, .int .i64 0, .int .i64 0]) := by kernel_rfl
theorem ldk245 : ldk Tryz.prog 245 = some none := by kernel_rfl
theorem tsize245 : tsize Tryz.prog 245 = some 1 := by kernel_rfl
theorem ptrT245 : ptrT Tryz.prog 245 = true := by kernel_rfl
theorem zeroL245 : zeroL Tryz.prog 245 = some [.nil] := by kernel_rfl
theorem zeroV245 : zeroV Tryz.prog 245 = some (.nil) := by kernel_rfl
theorem ldk249 : ldk Tryz.prog 249 = some none := by kernel_rfl
theorem tsize249 : tsize Tryz.prog 249 = some 1 := by kernel_rfl
theorem ptrT249 : ptrT Tryz.prog 249 = true := by kernel_rfl
theorem zeroL249 : zeroL Tryz.prog 249 = some [.nil] := by kernel_rfl
theorem zeroV249 : zeroV Tryz.prog 249 = some (.nil) := by kernel_rfl
theorem ldk252 : ldk Tryz.prog 252 = some (some 2) := by kernel_rfl
theorem tsize252 : tsize Tryz.prog 252 = some 2 := by kernel_rfl
theorem fld252_0 : fld Tryz.prog 252 0 = some (0, 1, none) := by kernel_rfl
theorem bpl252_0 : bldPl Tryz.prog 252 0 = some (0, 1) := by kernel_rfl
theorem fld252_1 : fld Tryz.prog 252 1 = some (1, 1, none) := by kernel_rfl
theorem bpl252_1 : bldPl Tryz.prog 252 1 = some (1, 1) := by kernel_rfl
theorem bok252 : bldOk Tryz.prog 252 = true := by kernel_rfl
theorem zeroL252 : zeroL Tryz.prog 252 = some [.sl 0 0 (fun _ => .any) true, .sl 0 0 (fun _ => .any) true] := by kernel_rfl
theorem zeroV252 : zeroV Tryz.prog 252 = some (.agg [.sl 0 0 (fun _ => .any) true, .sl 0 0 (fun _ => .any) true]) := by kernel_rfl
theorem ldk254 : ldk Tryz.prog 254 = some (some 1) := by kernel_rfl
theorem tsize254 : tsize Tryz.prog 254 = some 1 := by kernel_rfl
theorem fld254_0 : fld Tryz.prog 254 0 = some (0, 1, none) := by kernel_rfl
theorem bpl254_0 : bldPl Tryz.prog 254 0 = some (0, 1) := by kernel_rfl
theorem bok254 : bldOk Tryz.prog 254 = true := by kernel_rfl
theorem zeroL254 : zeroL Tryz.prog 254 = some [.sl 0 0 (fun _ => .any) true] := by kernel_rfl
theorem zeroV254 : zeroV Tryz.prog 254 = some (.agg [.sl 0 0 (fun _ => .any) true]) := by kernel_rfl
theorem ldk255 : ldk Tryz.prog 255 = some (some 1) := by kernel_rfl
theorem tsize255 : tsize Tryz.prog 255 = some 1 := by kernel_rfl
theorem fld255_0 : fld Tryz.prog 255 0 = some (0, 1, none) := by kernel_rfl
theorem bpl255_0 : bldPl Tryz.prog 255 0 = some (0, 1) := by kernel_rfl
theorem bok255 : bldOk Tryz.prog 255 = true := by kernel_rfl
theorem zeroL255 : zeroL Tryz.prog 255 = some [.sl 0 0 (fun _ => .any) true] := by kernel_rfl
theorem zeroV255 : zeroV Tryz.prog 255 = some (.agg [.sl 0 0 (fun _ => .any) true]) := by kernel_rfl
theorem ldk264 : ldk Tryz.prog 264 = some none := by kernel_rfl
theorem tsize264 : tsize Tryz.prog 264 = some 1 := by kernel_rfl
theorem zeroL264 : zeroL Tryz.prog 264 = some [.nilfn] := by kernel_rfl
theorem zeroV264 : zeroV Tryz.prog 264 = some (.nilfn) := by kernel_rfl
theorem mixed : Tryz.prog.follows .mixedOrders = true := by kernel_rfl
set_option linter.defProp false in
def wFacts := And.intro (And.intro (And.intro (And.intro (And.intro (And.intro (And.intro (And.intro (@ldk3) (And.intro (@tsize3) (@ikd3))) (And.intro (@zeroL3) (And.intro (@zeroV3) (@ldk4)))) (And.intro (And.intro (@tsize4) (And.intro (@boolT4) (@zeroL4))) (And.intro (And.intro (@zeroV4) (@ldk5)) (And.intro (@tsize5) (@ikd5))))) (And.intro (And.intro (And.intro (@zeroL5) (And.intro (@zeroV5) (@ldk9))) (And.intro (@tsize9) (And.intro (@ldk17) (@tsize17)))) (And.intro (And.intro (@ptrT17) (And.intro (@zeroL17) (@zeroV17))) (And.intro (And.intro (@ldk18) (@tsize18)) (And.intro (@fld18_0) (@bpl18_0)))))) (And.intro (And.intro (And.intro (And.intro (@bok18) (And.intro (@zeroL18) (@zeroV18))) (And.intro (@ldk22) (And.intro (@tsize22) (@sliceT22)))) (And.intro (And.intro (@elm22) (And.intro (@zeroL22) (@zeroV22))) (And.intro (And.intro (@ldk23) (@tsize23)) (And.intro (@sliceT23) (@elm23))))) (And.intro (And.intro (And.intro (@zeroL23) (And.intro (@zeroV23) (@ldk24))) (And.intro (And.intro (@tsize24) (@sliceT24)) (And.intro (@elm24) (@zeroL24)))) (And.intro (And.intro (@zeroV24) (And.intro (@ldk26) (@tsize26))) (And.intro (And.intro (@fld26_0) (@bpl26_0)) (And.intro (@fld26_1) (@bpl26_1))))))) (And.intro (And.intro (And.intro (And.intro (And.intro (@bok26) (And.intro (@zeroL26) (@zeroV26))) (And.intro (@ldk28) (And.intro (@tsize28) (@fld28_0)))) (And.intro (And.intro (@bpl28_0) (And.intro (@fld28_1) (@bpl28_1))) (And.intro (And.intro (@bok28) (@zeroL28)) (And.intro (@zeroV28) (@ldk30))))) (And.intro (And.intro (And.intro (@tsize30) (And.intro (@fld30_0) (@bpl30_0))) (And.intro (And.intro (@fld30_1) (@bpl30_1)) (And.intro (@fld30_2) (@bpl30_2)))) (And.intro (And.intro (@fld30_3) (And.intro (@bpl30_3) (@fld30_4))) (And.intro (And.intro (@bpl30_4) (@fld30_5)) (And.intro (@bpl30_5) (@fld30_6)))))) (And.intro (And.intro (And.intro (And.intro (@bpl30_6) (And.intro (@fld30_7) (@bpl30_7))) (And.intro (@fld30_8) (And.intro (@bpl30_8) (@fld30_9)))) (And.intro (And.intro (@bpl30_9) (And.intro (@bok30) (@zeroL30))) (And.intro (And.intro (@zeroV30) (@ldk35)) (And.intro (@tsize35) (@sliceT35))))) (And.intro (And.intro (And.intro (@elm35) (And.intro (@zeroL35) (@zeroV35))) (And.intro (And.intro (@ldk36) (@tsize36)) (And.intro (@ikd36) (@zeroL36)))) (And.intro (And.intro (@zeroV36) (And.intro (@ldk43) (@tsize43))) (And.intro (And.intro (@elm43) (@bpl43_0)) (And.intro (@bpl43_1) (@bok43)))))))) (And.intro (And.intro (And.intro (And.intro (And.intro (And.intro (@arr43) (And.intro (@zeroL43) (@zeroV43))) (And.intro (@ldk44) (And.intro (@tsize44) (@sliceT44)))) (And.intro (And.intro (@elm44) (And.intro (@zeroL44) (@zeroV44))) (And.intro (And.intro (@ldk48) (@tsize48)) (And.intro (@fld48_0) (@bpl48_0))))) (And.intro (And.intro (And.intro (@fld48_1) (And.intro (@bpl48_1) (@bok48))) (And.intro (@zeroL48) (And.intro (@zeroV48) (@ldk50)))) (And.intro (And.intro (@tsize50) (And.intro (@fld50_0) (@bpl50_0))) (And.intro (And.intro (@fld50_1) (@bpl50_1)) (And.intro (@bok50) (@zeroL50)))))) (And.intro (And.intro (And.intro (And.intro (@zeroV50) (And.intro (@ldk52) (@tsize52))) (And.intro (@fld52_0) (And.intro (@bpl52_0) (@fld52_1)))) (And.intro (And.intro (@bpl52_1) (And.intro (@fld52_2) (@bpl52_2))) (And.intro (And.intro (@fld52_3) (@bpl52_3)) (And.intro (@fld52_4) (@bpl52_4))))) (And.intro (And.intro (And.intro (@fld52_5) (And.intro (@bpl52_5) (@fld52_6))) (And.intro (And.intro (@bpl52_6) (@fld52_7)) (And.intro (@bpl52_7) (@bok52)))) (And.intro (And.intro (@zeroL52) (And.intro (@zeroV52) (@ldk54))) (And.intro (And.intro (@tsize54) (@fld54_0)) (And.intro (@bpl54_0) (@fld54_1))))))) (And.intro (And.intro (And.intro (And.intro (And.intro (@bpl54_1) (And.intro (@fld54_2) (@bpl54_2))) (And.intro (@bok54) (And.intro (@zeroL54) (@zeroV54)))) (And.intro (And.intro (@ldk57) (And.intro (@tsize57) (@sliceT57))) (And.intro (And.intro (@elm57) (@zeroL57)) (And.intro (@zeroV57) (@ldk69))))) (And.intro (And.intro (And.intro (@tsize69) (And.intro (@zeroL69) (@zeroV69))) (And.intro (And.intro (@ldk70) (@tsize70)) (And.intro (@zeroL70) (@zeroV70)))) (And.intro (And.intro (@ldk81) (And.intro (@tsize81) (@sliceT81))) (And.intro (And.intro (@elm81) (@zeroL81)) (And.intro (@zeroV81) (@ldk84)))))) (And.intro (And.intro (And.intro (And.intro (@tsize84) (And.intro (@fld84_0) (@bpl84_0))) (And.intro (@fld84_1) (And.intro (@bpl84_1) (@bok84)))) (And.intro (And.intro (@zeroL84) (And.intro (@zeroV84) (@ldk110))) (And.intro (And.intro (@tsize110) (@fld110_0)) (And.intro (@bpl110_0) (@fld110_1))))) (And.intro (And.intro (And.intro (@bpl110_1) (And.intro (@bok110) (@seqT110))) (And.intro (And.intro (@zeroL110) (@zeroV110)) (And.intro (@ldk114) (@tsize114)))) (And.intro (And.intro (@elm114) (And.intro (@bpl114_0) (@bpl114_1))) (And.intro (And.intro (@bpl114_2) (@bpl114_3)) (And.intro (@bpl114_4) (@bok114))))))))) (And.intro (And.intro (And.intro (And.intro (And.intro (And.intro (And.intro (@arr114) (And.intro (@zeroL114) (@zeroV114))) (And.intro (@ldk120) (And.intro (@tsize120) (@sliceT120)))) (And.intro (And.intro (@elm120) (And.intro (@zeroL120) (@zeroV120))) (And.intro (And.intro (@ldk122) (@tsize122)) (And.intro (@elm122) (@bpl122_0))))) (And.intro (And.intro (And.intro (@bpl122_1) (And.intro (@bok122) (@arr122))) (And.intro (@zeroL122) (And.intro (@zeroV122) (@ldk123)))) (And.intro (And.intro (@tsize123) (And.intro (@sliceT123) (@elm123))) (And.intro (And.intro (@zeroL123) (@zeroV123)) (And.intro (@ldk125) (@tsize125)))))) (And.intro (And.intro (And.intro (And.intro (@fld125_0) (And.intro (@bpl125_0) (@fld125_1))) (And.intro (@bpl125_1) (And.intro (@fld125_2) (@bpl125_2)))) (And.intro (And.intro (@bok125) (And.intro (@seqT125) (@zeroL125))) (And.intro (And.intro (@zeroV125) (@ldk126)) (And.intro (@tsize126) (@sliceT126))))) (And.intro (And.intro (And.intro (@elm126) (And.intro (@zeroL126) (@zeroV126))) (And.intro (And.intro (@ldk134) (@tsize134)) (And.intro (@zeroL134) (@zeroV134)))) (And.intro (And.intro (@ldk143) (And.intro (@tsize143) (@zeroL143))) (And.intro (And.intro (@zeroV143) (@ldk145)) (And.intro (@tsize145) (@zeroL145))))))) (And.intro (And.intro (And.intro (And.intro (And.intro (@zeroV145) (And.intro (@ldk146) (@tsize146))) (And.intro (@zeroL146) (And.intro (@zeroV146) (@ldk148)))) (And.intro (And.intro (@tsize148) (And.intro (@sliceT148) (@elm148))) (And.intro (And.intro (@zeroL148) (@zeroV148)) (And.intro (@ldk151) (@tsize151))))) (And.intro (And.intro (And.intro (@zeroL151) (And.intro (@zeroV151) (@ldk154))) (And.intro (And.intro (@tsize154) (@zeroL154)) (And.intro (@zeroV154) (@ldk156)))) (And.intro (And.intro (@tsize156) (And.intro (@zeroL156) (@zeroV156))) (And.intro (And.intro (@ldk164) (@tsize164)) (And.intro (@zeroL164) (@zeroV164)))))) (And.intro (And.intro (And.intro (And.intro (@ldk165) (And.intro (@tsize165) (@zeroL165))) (And.intro (@zeroV165) (And.intro (@ldk177) (@tsize177)))) (And.intro (And.intro (@zeroL177) (And.intro (@zeroV177) (@ldk181))) (And.intro (And.intro (@tsize181) (@mapT181)) (And.intro (@zeroL181) (@zeroV181))))) (And.intro (And.intro (And.intro (@ldk183) (And.intro (@tsize183) (@fld183_0))) (And.intro (And.intro (@bpl183_0) (@fld183_1)) (And.intro (@bpl183_1) (@fld183_2)))) (And.intro (And.intro (@bpl183_2) (And.intro (@bok183) (@seqT183))) (And.intro (And.intro (@zeroL183) (@zeroV183)) (And.intro (@ldk184) (@tsize184)))))))) (And.intro (And.intro (And.intro (And.intro (And.intro (And.intro (@zeroL184) (And.intro (@zeroV184) (@ldk187))) (And.intro (@tsize187) (And.intro (@ikd187) (@zeroL187)))) (And.intro (And.intro (@zeroV187) (And.intro (@ldk191) (@tsize191))) (And.intro (And.intro (@sliceT191) (@elm191)) (And.intro (@zeroL191) (@zeroV191))))) (And.intro (And.intro (And.intro (@ldk197) (And.intro (@tsize197) (@ikd197))) (And.intro (@zeroL197) (And.intro (@zeroV197) (@ldk205)))) (And.intro (And.intro (@tsize205) (And.intro (@zeroL205) (@zeroV205))) (And.intro (And.intro (@ldk211) (@tsize211)) (And.intro (@ikd211) (@zeroL211)))))) (And.intro (And.intro (And.intro (And.intro (@zeroV211) (And.intro (@ldk218) (@tsize218))) (And.intro (@ikd218) (And.intro (@zeroL218) (@zeroV218)))) (And.intro (And.intro (@ldk220) (And.intro (@tsize220) (@zeroL220))) (And.intro (And.intro (@zeroV220) (@ldk221)) (And.intro (@tsize221) (@zeroL221))))) (And.intro (And.intro (And.intro (@zeroV221) (And.intro (@ldk232) (@tsize232))) (And.intro (And.intro (@ikd232) (@zeroL232)) (And.intro (@zeroV232) (@ldk236)))) (And.intro (And.intro (@tsize236) (And.intro (@ptrT236) (@zeroL236))) (And.intro (And.intro (@zeroV236) (@ldk238)) (And.intro (@tsize238) (@zeroL238))))))) (And.intro (And.intro (And.intro (And.intro (And.intro (@zeroV238) (And.intro (@ldk241) (@tsize241))) (And.intro (@sliceT241) (And.intro (@elm241) (@zeroL241)))) (And.intro (And.intro (@zeroV241) (And.intro (@ldk244) (@tsize244))) (And.intro (And.intro (@elm244) (@bpl244_0)) (And.intro (@bpl244_1) (@bpl244_2))))) (And.intro (And.intro (And.intro (@bok244) (And.intro (@arr244) (@zeroL244))) (And.intro (And.intro (@zeroV244) (@ldk245)) (And.intro (@tsize245) (@ptrT245)))) (And.intro (And.intro (@zeroL245) (And.intro (@zeroV245) (@ldk249))) (And.intro (And.intro (@tsize249) (@ptrT249)) (And.intro (@zeroL249) (@zeroV249)))))) (And.intro (And.intro (And.intro (And.intro (@ldk252) (And.intro (@tsize252) (@fld252_0))) (And.intro (@bpl252_0) (And.intro (@fld252_1) (@bpl252_1)))) (And.intro (And.intro (@bok252) (And.intro (@zeroL252) (@zeroV252))) (And.intro (And.intro (@ldk254) (@tsize254)) (And.intro (@fld254_0) (@bpl254_0))))) (And.intro (And.intro (And.intro (@bok254) (And.intro (@zeroL254) (@zeroV254))) (And.intro (And.intro (@ldk255) (@tsize255)) (And.intro (@fld255_0) (@bpl255_0)))) (And.intro (And.intro (@bok255) (And.intro (@zeroL255) (@zeroV255))) (And.intro (And.intro (@ldk264) (@tsize264)) (And.intro (@zeroL264) (@zeroV264)))))))))
theorem sl1_u {α : Type} (e : α → AV) (d : α) (l : List α) : sl1 e d l = .sl l.length l.length (slF e d l) false := nrfl rfl
set_option linter.defProp false in
def wA := And.intro wPost (And.intro wFast (And.intro wCore (And.intro @beq_self_eq_true.{0} (And.intro @ite_true.{1} (And.intro @ite_false.{1} (And.intro @false_implies (And.intro @true_implies (And.intro @implies_true.{1} (And.intro @implies_true.{0} (And.intro @eq_self.{1} (And.intro @ne_eq.{1} (And.intro @sl1_u wFacts))))))))))))
end Go.Ab.N
namespace Go.Ab.N
open Go Go.RowKit Go.Proofs
noncomputable section
set_option maxRecDepth 10000
set_option maxHeartbeats 2000000
open Classical

def ofA (neg : Bool) (l : List Int) : AV := .agg [.bool (neg && decide (trim l l.length ≠ 0)), ints (l.take (trim l l.length))]
theorem settled_ofA (neg : Bool) (l : List Int) : Settled (ofA neg l) := settled_agg (by simp [settled_ints, settled_bool])
theorem of_fn (neg : Bool) (d : List Int) (hl : d.length < 4611686018427387904) : Fn Tryz.prog 208 [.bool neg, ints d] (ofA neg d) := by
  refine Fn.intro (fn := Tryz.f208) Tryz.call208 Tryz.func208 rfl mixed 6 [] [] [] (by kernel_rfl) (Nat.le_of_ble_eq_true rfl) (by simp [settled_ints, settled_I, settled_fn0, settled_intss, settled_bool, settled_nil, settled_zA, settled_ofA, settled_int]) (vc_soundN 1000 ?_); simp (config := { maxSteps := 2000000 }) only [AS.start, ↓wPre, wA, ↓reduceIte, reduceIte, reduceCtorEq, Y1, Y2, Y3, Y4, Y5, Y6, Y7, Y8, Y9, YA, zA, wN]
  refine run_loop (fun n : Nat => ⟨6, [], [.bool neg, ints d, .any, .any, .ref 0 0 0, I n], [], [.row 0 2 (ofL [.bool false, .sl 0 0 (fun _ => .any) true])]⟩) (fun n => n ≤ d.length ∧ trim d d.length = trim d n) (fun n => n) d.length ⟨by omega, rfl⟩
    (sub_mk rfl (by simp [zA, wN, subL, ints, intss, bools, sl1, I]) (by simp [subT]) rfl) ?_
  rintro n ⟨hn, ht⟩ next
  cases n with
  | zero =>
    refine vc_soundN 1000 ?_
    simp only [Int.lt_irrefl, ↓wPre, wA, ↓reduceIte, reduceIte, reduceCtorEq, Y1, Y2, Y3, Y4, Y5, Y6, Y7, Y8, Y9, YA, zA, wN]
    refine retCellP (v := .agg [.bool false, .sl 0 0 (fun _ => .any) false]) rfl (by simp [AS.get, aload, ldk26, rd, cellsFrom, ofL, oif_true]) ?_
    have e : ofA neg d = .agg [.bool false, ints []] := by unfold ofA; rw [ht]; simp [trim]
    rw [e]
    exact sees_agg ⟨sees_of (settled_bool _) rfl, sees_of_weak (settled_ints _) (weak_emp _ _), trivial⟩
  | succ n =>
    have e0 : (0 < ((n + 1 : Nat) : Int)) = True := eq_true (by omega)
    have e1 : (((n + 1 : Nat) : Int) = 0) = False := eq_false (by omega)
    have w1 : IntKind.i64.wrap (((n + 1 : Nat) : Int) - 1) = (n : Int) := by rw [IntKind.wrap_i64]; omega
    have e2 : (n < d.length) = True := eq_true (by omega)
    refine vc_soundN 1000 ?_
    simp only [e0, e1, e2, w1, ↓wPre, wA, ↓reduceIte, reduceIte, reduceCtorEq, Y1, Y2, Y3, Y4, Y5, Y6, Y7, Y8, Y9, YA, zA, wN]
    refine ⟨fun h0 => next n _ ⟨by omega, by rw [ht]; simp only [trim]; rw [if_pos h0]⟩ (by omega) (sub_mk rfl (by simp [zA, wN, subL, ints, intss, bools, sl1, I]) (by simp [subT]) rfl), fun h0 => ⟨by omega, ?_⟩⟩
    have ht2 : trim d d.length = n + 1 := by rw [ht]; simp only [trim]; rw [if_neg h0]
    have e : ofA neg d = .agg [.bool neg, ints (d.take (n + 1))] := by unfold ofA; rw [ht2]; simp
    have hlen : (d.take (n + 1)).length = n + 1 := by rw [List.length_take]; omega
    rw [e]
    refine retCellP (v := .agg [.bool neg, .sl (n + 1) (n + 1) (fun j => .int .i64 (d.getD j 0)) false]) rfl ?_ ?_
    · have m1 : min (n + 1) d.length = n + 1 := by omega
      simp [AS.get, aload, ldk26, rd, cellsFrom, ofL, oif_true, m1]
    · refine sees_agg ⟨sees_of (settled_bool _) rfl, sees_of_weak (settled_ints _) (weak_cut _ hlen.symm (by omega) fun j hj => ?_), trivial⟩
      rw [hlen] at hj
      rw [getD_take d 0 j (n + 1) hj]; rfl
end
end Go.Ab.N
