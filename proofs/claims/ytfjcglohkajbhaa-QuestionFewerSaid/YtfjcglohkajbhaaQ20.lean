/- Contracts of functions of this chapter, for every argument that fits, and what they need. -/
import Derived.Test.YtfjcglohkajbhaaQ19
set_option linter.unusedSimpArgs false
set_option linter.unusedVariables false
namespace Go.Ab.Q
open Go Go.RowKit Go.Proofs
noncomputable section
set_option maxRecDepth 10000
set_option maxHeartbeats 1000000
set_option linter.unusedSimpArgs false
open Classical

/-! ### The numbers of sets -/
theorem set_bits {W s : List Int} (h : IsSet W s) (hw : W.length ≤ 8) : mem8 (bitsN s) = s := by
  obtain ⟨p, rfl⟩ := h
  rw [bits_lst, mem8_num p _ hw]
theorem tb_num (p : Nat → Bool) (n j : Nat) (hn : n ≤ 8) (hj : j < n) : tb (num p n : Nat) (j : Nat) = p j := by
  have h1 := num_lt p n
  have h2 : 2 ^ n ≤ 2 ^ 8 := Nat.pow_le_pow_right (by omega) hn
  rw [tb_nat _ _ (by omega) (by omega), num_bit]; simp [hj]
theorem lst_take (p : Nat → Bool) : ∀ (n j : Nat), j < (lst p n).length → ∃ i : Nat, (lst p n).getD j 0 = i ∧ i < n ∧ p i = true ∧ (lst p n).take j = lst p i ∧ (lst p n).take (j + 1) = lst p (i + 1)
  | 0, j, h => by simp [lst] at h
  | n + 1, j, h => by
    rw [lst_succ] at h ⊢
    by_cases hp : p n = true
    · rw [if_pos hp] at h ⊢
      simp only [List.length_append, List.length_cons, List.length_nil] at h
      by_cases hj : j < (lst p n).length
      · obtain ⟨i, h1, h2, h3, h4, h5⟩ := lst_take p n j hj
        refine ⟨i, ?_, by omega, h3, ?_, ?_⟩
        · rw [← h1]; simp [List.getD_eq_getElem?_getD, List.getElem?_append_left hj]
        · rw [List.take_append_of_le_length (by omega)]; exact h4
        · rw [List.take_append_of_le_length (by omega)]; exact h5
      · obtain rfl : j = (lst p n).length := by omega
        refine ⟨n, ?_, by omega, hp, ?_, ?_⟩
        · simp [List.getD_eq_getElem?_getD]
        · simp
        · rw [lst_succ, if_pos hp]; exact List.take_of_length_le (by simp)
    · rw [if_neg hp, List.append_nil] at h ⊢
      obtain ⟨i, h1, h2, h3, h4, h5⟩ := lst_take p n j h
      exact ⟨i, h1, by omega, h3, h4, h5⟩
theorem bit01 (x k : Nat) (hx : x < 9223372036854775808) (hk : k ≤ 63) : iand .i64 (ishr .i64 x k) 1 = if tb x k = true then 1 else 0 := by
  rw [tb_nat x k hx hk, ishr_nat x k hk, show (1 : Int) = ((1 : Nat) : Int) from rfl, iand_nat _ 1 (Nat.lt_of_le_of_lt (Nat.div_le_self _ _) hx) (by omega), Nat.testBit_eq_decide_div_mod_eq, Nat.and_one_is_mod]
  have : x / 2 ^ k % 2 < 2 := Nat.mod_lt _ (by omega)
  by_cases h : x / 2 ^ k % 2 = 1
  · simp [h]
  · have h0 : x / 2 ^ k % 2 = 0 := by omega
    simp [h0]
theorem or_step (q : Nat → Bool) (i : Nat) (hi : i ≤ 60) (b : Bool) (hb : b = q i) : ior .i64 (num q i : Nat) (ishl .i64 (if b = true then 1 else 0) (i : Nat)) = ((num q (i + 1) : Nat) : Int) := by
  have h1 := num_lt q i
  have h2 : 2 ^ (i + 1) = 2 ^ i + 2 ^ i := by rw [Nat.pow_succ]; omega
  subst hb
  by_cases hq : q i = true
  · rw [if_pos hq, ishl1 i (by omega), show (2 : Int) ^ i = ((2 ^ i : Nat) : Int) by simp, ior_nat _ _ (i + 1) (by omega) (by omega) (by omega)]
    simp only [num, if_pos hq]
    have := Nat.two_pow_add_eq_or_of_lt h1 1
    rw [Nat.mul_one] at this
    rw [Nat.or_comm, ← this, Nat.add_comm]
  · rw [if_neg hq]
    have : ishl .i64 0 (i : Nat) = ((0 : Nat) : Int) := by unfold ishl; simp [IntKind.wrap_i64]
    rw [this, ior_nat _ _ (i + 1) (by omega) (by omega) (Nat.two_pow_pos _)]
    simp [num, hq]
theorem not_step (W : List Int) (p : Nat → Bool) (k : Int) (n : Nat) (hn : n ≤ 8) : iandn .i64 (bitsN (lst p n)) (bitsN (side W (lst p n) k true)) = bitsN (side W (lst p n) k false) := by
  rw [side_lst, side_lst, bits_lst, bits_lst, bits_lst]
  have h2 : 2 ^ n ≤ 2 ^ 8 := Nat.pow_le_pow_right (by omega) hn
  refine iandn_nat _ _ (by have := num_lt p n; omega) (by have := num_lt (fun i => p i && tb (W.getD i 0) k == true) n; omega) _ (by have := num_lt (fun i => p i && tb (W.getD i 0) k == false) n; omega) fun i => ?_
  rw [num_bit, num_bit, num_bit]
  cases p i <;> cases tb (W.getD i 0) k <;> simp

/-! ### The memory of what is known -/
def valA (W C s : List Int) : AV := .agg [treeA (best W C s).1, I (best W C s).2]
def loopG (W : List Int) (f : (Int → Option AV) → List Int → (Int → Option AV)) (s : List Int) : Nat → (Int → Option AV) → (Int → Option AV)
  | 0, g => g
  | k + 1, g => if okK W s k then f (f (loopG W f s k g) (side W s k false)) (side W s k true) else loopG W f s k g
def memF (W C : List Int) : Nat → (Int → Option AV) → List Int → (Int → Option AV)
  | 0, g, _ => g
  | n + 1, g, s => if (g (bitsN s)).isSome = true then g else updK (loopG W (memF W C n) s C.length g) (bitsN s) (valA W C s)
def MemoOk (W C : List Int) (g : Int → Option AV) : Prop := ∀ n a, g n = some a → ∃ s, IsSet W s ∧ 0 < s.length ∧ n = bitsN s ∧ a = valA W C s
theorem loopG_ok (W C : List Int) (f : (Int → Option AV) → List Int → (Int → Option AV)) (s : List Int) (hs : IsSet W s) (hf : ∀ g t, MemoOk W C g → IsSet W t → 0 < t.length → MemoOk W C (f g t)) : ∀ k g, MemoOk W C g → MemoOk W C (loopG W f s k g)
  | 0, _, h => h
  | k + 1, g, h => by
    have ih := loopG_ok W C f s hs hf k g h
    simp only [loopG]
    split
    · rename_i ho
      exact hf _ _ (hf _ _ ih (hs.side k false) (by have := ho.1; omega)) (hs.side k true) (by have := ho.2; omega)
    · exact ih
theorem memF_ok (W C : List Int) : ∀ n g s, MemoOk W C g → IsSet W s → 0 < s.length → MemoOk W C (memF W C n g s)
  | 0, _, _, h, _, _ => h
  | n + 1, g, s, h, hs, h0 => by
    simp only [memF]
    split
    · exact h
    · intro m a hm
      unfold updK at hm
      split at hm
      · rename_i e
        cases hm
        exact ⟨s, hs, h0, e, rfl⟩
      · exact loopG_ok W C _ s hs (fun g t hg ht h0 => memF_ok W C n g t hg ht h0) C.length g h m a hm
theorem memo_hit {W C : List Int} {g : Int → Option AV} (h : MemoOk W C g) {s : List Int} (hs : IsSet W s) (hw : W.length ≤ 8) {a : AV} (ha : g (bitsN s) = some a) : a = valA W C s := by
  obtain ⟨t, h1, h2, h3, h4⟩ := h _ _ ha
  have e1 := set_bits hs hw
  have e2 := set_bits h1 hw
  rw [h3] at e1
  rw [h4, ← e1, e2]
theorem settled_valA (W C s : List Int) : Settled (valA W C s) := settled_agg (by simp [settled_tree, settled_I])

def Hp (W C : List Int) (g : Int → Option AV) : List AO := [.con 0 1 (ofL [ints W]), .con 0 1 (ofL [ints C]), .map .i64 g, .con 0 1 (ofL [.mp 2]), .con 0 1 (ofL [.fn 31 [.ref 3 0 0, .ref 0 0 0, .ref 1 0 0, .ref 4 0 0]])]
def argsP (n : Int) : List AV := [I n, .ref 3 0 0, .ref 0 0 0, .ref 1 0 0, .ref 4 0 0]
theorem bel_I (m : Nat) (n : Int) : Bel m (I n) := bel_of_settled (settled_I n)
theorem hp_bel (W C : List Int) (g : Int → Option AV) (hg : MemoOk W C g) (m : Nat) (hm : 5 ≤ m) : ∀ o ∈ Hp W C g, belO m o := by
  intro o ho
  simp only [Hp, List.mem_cons, List.mem_nil_iff, or_false] at ho
  have one : ∀ a : AV, Bel m a → belO m (.con 0 1 (ofL [a])) := fun a ha j hj => by
    obtain rfl : j = 0 := by omega
    exact ha
  rcases ho with rfl | rfl | rfl | rfl | rfl
  · exact one _ (bel_of_settled (settled_ints W))
  · exact one _ (bel_of_settled (settled_ints C))
  · intro n a hn
    obtain ⟨s, _, _, _, rfl⟩ := hg n a hn
    exact bel_of_settled (settled_valA W C s)
  · exact one _ (bel_mp (by omega))
  · refine one _ (bel_fn ?_)
    intro a ha
    simp only [List.mem_cons, List.mem_nil_iff, or_false] at ha
    rcases ha with rfl | rfl | rfl | rfl <;> exact bel_ref (by omega)
theorem args_bel (n : Int) : ∀ a ∈ argsP n, Bel 5 a := by
  intro a ha
  simp only [argsP, List.mem_cons, List.mem_nil_iff, or_false] at ha
  rcases ha with rfl | rfl | rfl | rfl | rfl
  · exact bel_I _ _
  all_goals exact bel_ref (by omega)
theorem hp_con (W C : List Int) (g g' : Int → Option AV) : ConEq (Hp W C g) (Hp W C g') := by
  intro id v n f
  match id with
  | 0 | 1 | 3 | 4 => exact Iff.rfl
  | 2 => simp [Hp]
  | id + 5 => simp [Hp]
theorem hp_born (W C : List Int) (g : Int → Option AV) : ∀ o ∈ Hp W C g, o ≠ .unborn := by
  intro o ho
  simp only [Hp, List.mem_cons, List.mem_nil_iff, or_false] at ho
  rcases ho with rfl | rfl | rfl | rfl | rfl <;> simp
end
end Go.Ab.Q
