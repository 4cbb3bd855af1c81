/- Contracts of functions of this chapter, for every argument that fits, and what they need. -/
import Derived.Test.YtfjcglohkajbhaaQ14
set_option linter.unusedSimpArgs false
set_option linter.unusedVariables false
namespace Go.Ab.Q
open Go Go.RowKit Go.Proofs
noncomputable section
set_option maxRecDepth 10000
set_option maxHeartbeats 1000000
set_option linter.unusedSimpArgs false
open Classical

/-! ### Bits -/
theorem wrap_nat (x : Nat) (h : x < 9223372036854775808) : IntKind.i64.wrap (x : Int) = x := by rw [IntKind.wrap_i64]; omega
theorem bv_nat (x : Nat) (h : x < 9223372036854775808) : (BitVec.ofInt 64 (x : Int)).toNat = x := by
  rw [BitVec.ofInt_natCast, BitVec.toNat_ofNat]; omega
theorem iand_nat (x y : Nat) (hx : x < 9223372036854775808) (hy : y < 9223372036854775808) : iand .i64 x y = ((x &&& y : Nat) : Int) := by
  unfold iand
  show IntKind.i64.wrap ((BitVec.ofInt 64 x &&& BitVec.ofInt 64 y).toNat : Int) = _
  rw [BitVec.toNat_and, bv_nat x hx, bv_nat y hy]
  exact wrap_nat _ (Nat.lt_of_le_of_lt Nat.and_le_left hx)
theorem ior_nat (x y : Nat) (n : Nat) (hn : n ≤ 62) (hx : x < 2 ^ n) (hy : y < 2 ^ n) : ior .i64 x y = ((x ||| y : Nat) : Int) := by
  have h62 : 2 ^ n ≤ 2 ^ 62 := Nat.pow_le_pow_right (by omega) hn
  unfold ior
  show IntKind.i64.wrap ((BitVec.ofInt 64 x ||| BitVec.ofInt 64 y).toNat : Int) = _
  rw [BitVec.toNat_or, bv_nat x (by omega), bv_nat y (by omega)]
  exact wrap_nat _ (by have := Nat.or_lt_two_pow hx hy; omega)
theorem iandn_nat (x y : Nat) (hx : x < 9223372036854775808) (hy : y < 9223372036854775808) (z : Nat) (hz : z < 9223372036854775808) (h : ∀ i, z.testBit i = (x.testBit i && !y.testBit i)) : iandn .i64 x y = (z : Int) := by
  unfold iandn
  show IntKind.i64.wrap ((BitVec.ofInt 64 x &&& ~~~ BitVec.ofInt 64 y).toNat : Int) = _
  have : (BitVec.ofInt 64 x &&& ~~~ BitVec.ofInt 64 y).toNat = z := by
    apply Nat.eq_of_testBit_eq
    intro i
    rw [BitVec.toNat_and, Nat.testBit_and, bv_nat x hx, h i, BitVec.testBit_toNat, BitVec.getLsbD_not, ← BitVec.testBit_toNat, bv_nat y hy]
    by_cases hi : i < 64
    · simp [hi]
    · have : x.testBit i = false := Nat.testBit_lt_two_pow (by
        have : 2 ^ 63 ≤ 2 ^ i := Nat.pow_le_pow_right (by omega) (by omega)
        omega)
      simp [hi, this]
  rw [this]
  exact wrap_nat _ hz
theorem ishr_nat (x k : Nat) (hk : k ≤ 63) : ishr .i64 x k = ((x / 2 ^ k : Nat) : Int) := by
  unfold ishr
  have : min (k : Int).toNat (IntKind.i64).bits = k := by simp [IntKind.bits]; omega
  rw [this, Int.fdiv_eq_ediv_of_nonneg _ (by exact Int.le_of_lt (pow_pos k))]
  simp
theorem tb_nat (x k : Nat) (hx : x < 9223372036854775808) (hk : k ≤ 63) : tb x k = x.testBit k := by
  unfold tb
  rw [ishr_nat x k hk, show (1 : Int) = ((1 : Nat) : Int) from rfl, iand_nat _ 1 (Nat.lt_of_le_of_lt (Nat.div_le_self _ _) hx) (by omega), Nat.testBit_eq_decide_div_mod_eq, Nat.and_one_is_mod]
  simp only [Int.natCast_inj]

/-! ### Sets of indices -/
/-- The number of a set. -/
def num (p : Nat → Bool) : Nat → Nat
  | 0 => 0
  | n + 1 => num p n + if p n = true then 2 ^ n else 0
def lst (p : Nat → Bool) (n : Nat) : List Int := ((List.range n).filter p).map fun i : Nat => (i : Int)
theorem num_lt (p : Nat → Bool) : ∀ n, num p n < 2 ^ n
  | 0 => by simp [num]
  | n + 1 => by
    have := num_lt p n
    have e : 2 ^ (n + 1) = 2 ^ n + 2 ^ n := by rw [Nat.pow_succ]; omega
    simp only [num]
    split <;> omega
theorem num_bit (p : Nat → Bool) : ∀ n i, (num p n).testBit i = (decide (i < n) && p i)
  | 0, i => by simp [num]
  | n + 1, i => by
    have hlt := num_lt p n
    have ih := num_bit p n i
    simp only [num]
    by_cases hp : p n = true
    · rw [if_pos hp, Nat.add_comm]
      rcases Nat.lt_trichotomy i n with h | h | h
      · rw [Nat.testBit_two_pow_add_gt h, ih]; simp [h, show i < n + 1 by omega]
      · subst h
        rw [Nat.testBit_two_pow_add_eq, ih]; simp [hp]
      · have h1 : (2 ^ n + num p n).testBit i = false := Nat.testBit_lt_two_pow (by
          have : 2 ^ (n + 1) ≤ 2 ^ i := Nat.pow_le_pow_right (by omega) h
          have e : 2 ^ (n + 1) = 2 ^ n + 2 ^ n := by rw [Nat.pow_succ]; omega
          omega)
        rw [h1]; simp [show ¬ i < n + 1 by omega]
    · rw [if_neg hp, Nat.add_zero, ih]
      by_cases h : i = n
      · subst h; simp [hp]
      · simp [show (i < n + 1) = (i < n) by apply propext; omega]
theorem lst_succ (p : Nat → Bool) (n : Nat) : lst p (n + 1) = lst p n ++ (if p n = true then [(n : Int)] else []) := by
  unfold lst
  rw [List.range_succ, List.filter_append, List.map_append]
  simp only [List.filter_cons, List.filter_nil]
  cases p n <;> simp
theorem lst_mem {p : Nat → Bool} {n : Nat} {i : Int} : i ∈ lst p n ↔ ∃ j : Nat, i = j ∧ j < n ∧ p j = true := by
  unfold lst
  simp only [List.mem_map, List.mem_filter, List.mem_range]
  constructor
  · rintro ⟨j, ⟨h1, h2⟩, rfl⟩; exact ⟨j, rfl, h1, h2⟩
  · rintro ⟨j, rfl, h1, h2⟩; exact ⟨j, ⟨h1, h2⟩, rfl⟩
theorem lst_len (p : Nat → Bool) (n : Nat) : (lst p n).length ≤ n := by
  unfold lst; rw [List.length_map]; exact Nat.le_trans (List.length_filter_le _ _) (by simp)
theorem bits_lst (p : Nat → Bool) : ∀ n, bitsN (lst p n) = num p n
  | 0 => rfl
  | n + 1 => by
    rw [lst_succ, num]
    have ih := bits_lst p n
    split
    · rw [bitsN_snoc, ih]; simp
    · rw [List.append_nil, ih]; simp
theorem lst_congr {p q : Nat → Bool} : ∀ {n : Nat}, (∀ i, i < n → p i = q i) → lst p n = lst q n
  | 0, _ => rfl
  | n + 1, h => by rw [lst_succ, lst_succ, lst_congr (fun i hi => h i (by omega)), h n (by omega)]
theorem num_congr {p q : Nat → Bool} : ∀ {n : Nat}, (∀ i, i < n → p i = q i) → num p n = num q n
  | 0, _ => rfl
  | n + 1, h => by rw [num, num, num_congr (fun i hi => h i (by omega)), h n (by omega)]
theorem allI_lst (n : Nat) : allI n = lst (fun _ => true) n := by
  unfold allI lst; rw [List.filter_eq_self.2 (by simp)]
theorem lst_filter (p : Nat → Bool) (q : Int → Bool) (n : Nat) : (lst p n).filter q = lst (fun i => p i && q i) n := by
  unfold lst
  rw [List.filter_map, List.filter_filter]
  congr 2
  funext i
  simp [Bool.and_comm]
theorem side_lst (W : List Int) (p : Nat → Bool) (n : Nat) (k : Int) (b : Bool) : side W (lst p n) k b = lst (fun i => p i && (tb (W.getD i 0) k == b)) n := by
  unfold side
  rw [lst_filter]
  rfl
theorem mem8_eq (x : Nat) (hx : x < 9223372036854775808) : mem8 x = lst (fun i => x.testBit i) 8 := by
  unfold mem8
  rw [allI_lst, lst_filter]
  apply lst_congr
  intro i hi
  rw [tb_nat x i hx (by omega)]; rfl
theorem mem8_num (p : Nat → Bool) (n : Nat) (hn : n ≤ 8) : mem8 (num p n : Nat) = lst p n := by
  have h1 := num_lt p n
  have h2 : 2 ^ n ≤ 2 ^ 8 := Nat.pow_le_pow_right (by omega) hn
  rw [mem8_eq _ (by omega), show lst p n = lst (fun i => decide (i < n) && p i) 8 from ?_]
  · exact lst_congr fun i _ => num_bit p n i
  · have : ∀ m, lst p n = lst (fun i => decide (i < n) && p i) (n + m) := by
      intro m
      induction m with
      | zero => exact lst_congr fun i hi => by simp [hi]
      | succ m ih => rw [← Nat.add_assoc, lst_succ, ← ih]; simp; intro h; omega
    have := this (8 - n)
    rwa [show n + (8 - n) = 8 by omega] at this
end
end Go.Ab.Q
