/- Contracts of functions of this chapter, for every argument that fits, and what they need. -/
import Derived.Test.YtfjcglohkajbhaaQ32
set_option linter.unusedSimpArgs false
set_option linter.unusedVariables false
namespace Go.Ab.Q
open Go Go.RowKit Go.Proofs
noncomputable section
set_option maxRecDepth 10000
set_option maxHeartbeats 2000000
set_option linter.unusedSimpArgs false
open Classical

/-! ### Fewer worlds, fewer questions -/
theorem side_sub {W W' s s' : List Int} {g : Int → Int} {a b : Int} (hs : (s'.map g).Sublist s) (hb : ∀ i ∈ s', tb (W'.getD i.toNat 0) a = tb (W.getD (g i).toNat 0) b) (v : Bool) :
    ((side W' s' a v).map g).Sublist (side W s b v) := by
  have e : (side W' s' a v).map g = (s'.map g).filter fun i => tb (W.getD i.toNat 0) b == v := by
    unfold side
    rw [List.filter_map]
    congr 1
    refine List.filter_congr fun i hi => ?_
    simp only [Function.comp]
    rw [hb i hi]
  rw [e]
  exact hs.filter _
theorem best_mono (W C W' C' : List Int) (hc : CostOk C) (hc' : CostOk C') (g : Int → Int) (q : Nat → Nat) (hq : ∀ j, j < C.length → q j < C'.length ∧ C'.getD (q j) 0 ≤ C.getD j 0) :
    ∀ (n : Nat) (s s' : List Int), s.length = n → 0 < s'.length → Apart W C s → Apart W' C' s' → (s'.map g).Sublist s →
    (∀ i ∈ s', ∀ j : Nat, j < C.length → tb (W'.getD i.toNat 0) (q j : Nat) = tb (W.getD (g i).toNat 0) j) → (best W' C' s').2 ≤ (best W C s).2 := by
  intro n
  induction n using Nat.strongRecOn with
  | _ n ih =>
    intro s s' hn h0 ha ha' hsub hb
    have hle : s'.length ≤ s.length := by simpa using hsub.length_le
    have hnn := (best_bound W C hc n s hn (by omega) ha).1
    by_cases h1 : s'.length = 1
    · rw [best_eq W' C' s', if_pos h1]; exact hnn
    obtain ⟨k, hk, ⟨o1, o2⟩, he, _, _⟩ := best_node W C hc s ha (by omega)
    obtain ⟨q1, q2⟩ := hq k hk
    have hsl := side_length W s k
    have hsl' := side_length W' s' (q k : Nat)
    have sub : ∀ v, ((side W' s' (q k : Nat) v).map g).Sublist (side W s k v) := fun v => side_sub hsub (fun i hi => hb i hi k hk) v
    have cmp : ∀ v, (side W' s' (q k : Nat) v).length ≠ 0 → (best W' C' (side W' s' (q k : Nat) v)).2 ≤ (best W C (side W s k v)).2 := fun v hv =>
      ih _ (by cases v <;> omega) (side W s k v) _ rfl (by omega) (ha.side k v) (ha'.side _ v) (sub v) (fun i hi => hb i (side_mem hi))
    have cst := hc.at hk
    rw [he]
    simp only [cK]
    by_cases e1 : (side W' s' (q k : Nat) false).length = 0
    · have e2 : side W' s' (q k : Nat) true = s' := List.Sublist.eq_of_length List.filter_sublist (by omega)
      have := cmp true (by rw [e2]; omega)
      rw [e2] at this
      omega
    by_cases e2 : (side W' s' (q k : Nat) true).length = 0
    · have e3 : side W' s' (q k : Nat) false = s' := List.Sublist.eq_of_length List.filter_sublist (by omega)
      have := cmp false (by rw [e3]; omega)
      rw [e3] at this
      omega
    obtain ⟨_, _, _, he', _, hmin'⟩ := best_node W' C' hc' s' ha' (by omega)
    have := hmin' (q k) q1 ⟨e1, e2⟩
    rw [he']
    have c1 := cmp false e1
    have c2 := cmp true e2
    simp only [cK] at this ⊢
    omega

/-! ### The longest way -/
theorem flw_long (W C : List Int) : ∀ (t : Tr) (s : List Int) (c : Int), flw W C s t = some c → s.length ≤ 2 ^ longT t ∧ longT t < s.length := by
  intro t
  induction t with
  | nil => intro s c h; cases h
  | node a n y w ihn ihy =>
    intro s c h
    rw [flw] at h
    split at h
    · cases h
    rename_i h0
    split at h
    · rename_i ha
      split at h
      · rename_i hq
        obtain ⟨_, _, h1, _⟩ := hq
        simp only [longT]
        rw [if_pos (by omega), h1]; simp
      · cases h
    rename_i hna
    split at h
    · cases h
    rename_i hb
    split at h
    · rename_i x z e1 e2
      obtain ⟨a1, a2⟩ := ihn _ _ e1
      obtain ⟨b1, b2⟩ := ihy _ _ e2
      have hsl := side_length W s a
      simp only [longT]
      rw [if_neg (by omega)]
      have p1 : 2 ^ longT n ≤ 2 ^ max (longT n) (longT y) := Nat.pow_le_pow_right (by omega) (by omega)
      have p2 : 2 ^ longT y ≤ 2 ^ max (longT n) (longT y) := Nat.pow_le_pow_right (by omega) (by omega)
      rw [Nat.pow_add]
      omega
    · cases h

/-! ### A world without a question -/
def dropQ (w k : Int) : Int := ior .i64 (ishl .i64 (ishr .i64 w (k + 1)) k) (iand .i64 w (IntKind.i64.wrap (ishl .i64 1 k - 1)))
theorem dropQ_tb : ∀ w : Fin 32, ∀ k : Fin 5, ∀ j : Fin 4, tb (dropQ (w.val : Int) (k.val : Int)) (j.val : Int) = tb (w.val : Int) ((if j.val < k.val then j.val else j.val + 1 : Nat) : Int) := by
  decide +kernel
theorem dropQ_lt : ∀ w : Fin 32, ∀ k : Fin 5, ∀ q : Fin 6, k.val < q.val → w.val < 2 ^ q.val → 0 ≤ dropQ (w.val : Int) (k.val : Int) ∧ dropQ (w.val : Int) (k.val : Int) < 2 ^ (q.val - 1) := by
  decide +kernel

/-! ### Lists without an element -/
theorem worldsOk_iff (W C : List Int) : worldsOk W C ↔ (∀ w ∈ W, 0 ≤ w ∧ w < 2 ^ C.length) ∧ W.Nodup := by
  have at_ : ∀ j (hj : j < W.length), W.getD j 0 = W[j] := fun j hj => by rw [List.getD_eq_getElem?_getD, List.getElem?_eq_getElem hj]; rfl
  constructor
  · intro h
    refine ⟨fun w hw => ?_, ?_⟩
    · obtain ⟨j, hj, rfl⟩ := List.getElem_of_mem hw
      obtain ⟨h1, h2, _⟩ := h j hj
      rw [at_ j hj] at h1 h2
      exact ⟨h1, h2⟩
    · refine List.pairwise_iff_getElem.2 fun i j hi hj hij e => ?_
      obtain ⟨_, _, h3⟩ := h j hj
      rw [at_ j hj, ← e] at h3
      exact h3 (by rw [← List.getElem_take (j := j) (h := by simp; omega)]; exact List.getElem_mem _)
  · rintro ⟨h1, h2⟩ j hj
    refine ⟨(h1 _ (getD_mem hj)).1, (h1 _ (getD_mem hj)).2, fun hm => ?_⟩
    obtain ⟨i, hi, e⟩ := List.getElem_of_mem hm
    simp only [List.length_take] at hi
    rw [List.getElem_take, at_ j hj] at e
    exact List.pairwise_iff_getElem.1 h2 i j (by omega) hj (by omega) e
theorem anyBad_erase {C : List Int} (h : ¬ anyBad C) (k : Nat) : ¬ anyBad (C.eraseIdx k) := fun ⟨c, hc, hb⟩ => h ⟨c, (List.eraseIdx_sublist C k).subset hc, hb⟩
theorem proper_erase {W C : List Int} (h : properF W C = 0) (k : Nat) (hk : k < W.length) (h2 : 2 ≤ W.length) : properF (W.eraseIdx k) C = 0 := by
  obtain ⟨⟨z1, z2, z3⟩, z4, z5⟩ := proper_size h
  have hl : (W.eraseIdx k).length = W.length - 1 := List.length_eraseIdx_of_lt hk
  obtain ⟨y1, y2⟩ := (worldsOk_iff W C).1 z4
  refine (if_pos ⟨by omega, by omega, z3⟩).trans (if_pos ⟨(worldsOk_iff _ _).2 ⟨fun w hw => y1 w ((List.eraseIdx_sublist W k).subset hw), y2.sublist (List.eraseIdx_sublist W k)⟩, z5⟩)
def skip (k : Nat) (i : Int) : Int := if i < k then i else i + 1
theorem getD_erase (W : List Int) (k i : Nat) : (W.eraseIdx k).getD i 0 = W.getD (skip k i).toNat 0 := by
  simp only [List.getD_eq_getElem?_getD, List.getElem?_eraseIdx, skip]
  by_cases h : i < k
  · rw [if_pos h, if_pos (by omega)]; rfl
  · rw [if_neg h, if_neg (by omega)]
    rw [show ((i : Int) + 1).toNat = i + 1 by omega]
theorem allI_getElem (n i : Nat) (h : i < (allI n).length) : (allI n)[i] = (i : Int) := by simp [allI]
theorem allI_skip (n k : Nat) (hk : k < n) : ((allI (n - 1)).map (skip k)).Sublist (allI n) := by
  have e : (allI (n - 1)).map (skip k) = (allI n).eraseIdx k := by
    refine List.ext_getElem (by rw [List.length_map, List.length_eraseIdx_of_lt (by rw [allI_len]; exact hk), allI_len, allI_len]) fun i h1 h2 => ?_
    rw [List.getElem_map, List.getElem_eraseIdx]
    split
    · rw [allI_getElem, allI_getElem, skip, if_pos (by omega)]
    · rw [allI_getElem, allI_getElem, skip, if_neg (by omega)]; omega
  rw [e]
  exact List.eraseIdx_sublist _ _
/-- Without a world the least cost is not greater. -/
theorem fewer_worlds {W C : List Int} (h : properF W C = 0) (k : Nat) (hk : k < W.length) (h2 : 2 ≤ W.length) : (best (W.eraseIdx k) C (allI (W.eraseIdx k).length)).2 ≤ (best W C (allI W.length)).2 := by
  have h' := proper_erase h k hk h2
  obtain ⟨⟨z1, z2, z3⟩, z4, z5⟩ := proper_size h
  have hl : (W.eraseIdx k).length = W.length - 1 := List.length_eraseIdx_of_lt hk
  have hset := isSet_all W
  have hset' := isSet_all (W.eraseIdx k)
  refine best_mono W C (W.eraseIdx k) C z5 z5 (skip k) id (fun j hj => ⟨hj, Int.le_refl _⟩) _ (allI W.length) _ rfl (by rw [allI_len]; omega) (proper_apart h hset.nodup hset.mem) (proper_apart h' hset'.nodup hset'.mem) (by rw [hl]; exact allI_skip _ _ hk) ?_
  intro i hi j hj
  obtain ⟨i1, i2⟩ := hset'.mem i hi
  obtain ⟨m, rfl⟩ : ∃ m : Nat, i = m := ⟨i.toNat, by omega⟩
  rw [show ((m : Nat) : Int).toNat = m by omega, getD_erase]; rfl
/-- Without a question the least cost is not less. -/
theorem fewer_asks {W C W' : List Int} (h : properF W C = 0) (hC5 : C.length ≤ 5) (k : Nat) (hk : k < C.length) (hW' : W' = W.map fun w => dropQ w k) (h' : properF W' (C.eraseIdx k) = 0) : (best W C (allI W.length)).2 ≤ (best W' (C.eraseIdx k) (allI W'.length)).2 := by
  obtain ⟨⟨z1, z2, z3⟩, z4, z5⟩ := proper_size h
  obtain ⟨_, _, y5⟩ := proper_size h'
  have hl : (C.eraseIdx k).length = C.length - 1 := List.length_eraseIdx_of_lt hk
  have hset := isSet_all W
  have hset' := isSet_all W'
  have hWl : W'.length = W.length := by rw [hW', List.length_map]
  refine best_mono W' (C.eraseIdx k) W C y5 z5 id (fun j => if j < k then j else j + 1) (fun j hj => ⟨by split <;> omega, ?_⟩) _ (allI W'.length) _ rfl (by rw [allI_len]; omega) (proper_apart h' hset'.nodup hset'.mem) (proper_apart h hset.nodup hset.mem) (by rw [hWl, List.map_id]; exact List.Sublist.refl _) ?_
  · rw [getD_erase, skip]
    by_cases hjk : j < k
    · rw [if_pos hjk, if_pos (by omega)]; simp
    · rw [if_neg hjk, if_neg (by omega), show ((j : Int) + 1).toNat = j + 1 by omega]; exact Int.le_refl _
  intro i hi j hj
  obtain ⟨i1, i2⟩ := hset.mem i hi
  obtain ⟨m, rfl⟩ : ∃ m : Nat, i = m := ⟨i.toNat, by omega⟩
  obtain ⟨w1, w2⟩ := ((worldsOk_iff W C).1 z4).1 _ (getD_mem (d := 0) (show m < W.length by omega))
  have hp : (2 : Int) ^ C.length ≤ 2 ^ 5 := by
    have : 2 ^ C.length ≤ 2 ^ 5 := Nat.pow_le_pow_right (by omega) hC5
    rw [show (2 : Int) ^ C.length = ((2 ^ C.length : Nat) : Int) by simp]; omega
  have e : W'.getD m 0 = dropQ (W.getD m 0) k := by
    rw [hW']
    simp only [List.getD_eq_getElem?_getD, List.getElem?_map, List.getElem?_eq_getElem (show m < W.length by omega)]; rfl
  have t := dropQ_tb ⟨(W.getD m 0).toNat, by omega⟩ ⟨k, by omega⟩ ⟨j, by omega⟩
  simp only [show (((W.getD m 0).toNat : Nat) : Int) = W.getD m 0 by omega] at t
  simp only [id, show ((m : Nat) : Int).toNat = m by omega, e]
  exact t.symm

theorem fn_weak {P : Program} {f : FuncId} {args : List AV} {r r' : AV} (h : Fn P f args r) (hw : Weak r r') : Fn P f args r' :=
  ⟨⟨h.call.1, fun w S vs hS hv => (h.call.2 w S vs hS hv).mono (by rintro e w' ⟨v, S', rfl, h1, h2, h3⟩; exact ⟨v, S', rfl, hw _ _ h1, h2, h3⟩)⟩, h.settled⟩
theorem weak_any (a : AV) : Weak a .any := fun _ v _ => .any v
theorem weak_tup {l m : List AV} (h : WeakL l m) : Weak (.tup l) (.tup m) := fun c v hv => by
  cases hv with
  | tup vs _ hs hr =>
    obtain ⟨e, h'⟩ := h.spec (c := c)
    exact .tup vs m (by omega) fun j hj => h' j (by omega) _ (hr j (by omega))
theorem flat_any : Flat .any := fun _ _ v _ => .any v
/-- The cost and the error alone. -/
def bestR (W C : List Int) : Int × Int := if properF W C ≠ 0 then (0, properF W C) else ((best W C (allI W.length)).2, 0)
theorem best_fnR (W C : List Int) (hW : W.length < 1048576) (hC : C.length < 1048576) : Fn Try.prog 12 [ints W, ints C] (.tup [.any, I (bestR W C).1, I (bestR W C).2]) := by
  refine fn_weak (best_fn W C hW hC) ?_
  unfold bestR
  split
  · exact weak_tup ⟨weak_any _, Weak.rfl' _, Weak.rfl' _, trivial⟩
  · exact weak_tup ⟨weak_any _, Weak.rfl' _, Weak.rfl' _, trivial⟩

theorem app2_erase (W : List Int) (k : Nat) (hk : k < W.length) (j : Nat) (hj : j < (W.eraseIdx k).length) :
    appF k (appF 0 (ofL []) k (fun j => .int .i64 (W.getD j 0))) (W.length - (k + 1)) (fun j => .int .i64 (W.getD (k + 1 + j) 0)) j = I ((W.eraseIdx k).getD j 0) := by
  have hl : (W.eraseIdx k).length = W.length - 1 := List.length_eraseIdx_of_lt hk
  rw [getD_erase]
  unfold appF skip
  by_cases h : j < k
  · rw [if_pos h, if_neg (by omega), if_pos (by omega), if_pos (by omega)]; rfl
  · rw [if_neg h, if_pos (by omega), if_neg (by omega), show ((j : Int) + 1).toNat = j + 1 by omega]
    show AV.int IntKind.i64 (W.getD (k + 1 + (j - k)) 0) = _
    rw [show k + 1 + (j - k) = j + 1 by omega]; rfl
theorem sees_erase {W : List Int} {k : Nat} {H : List AO} {a : AV} {id ver n m : Nat} {g : Nat → AV} (hk : k < W.length) (ha : a = .osl id ver 1 0 m) (ho : H[id]? = some (.row ver n g)) (hm : m = k + (W.length - (k + 1))) (hn : n = m)
    (hg : g = appF k (appF 0 (ofL []) k (fun j => .int .i64 (W.getD j 0))) (W.length - (k + 1)) (fun j => .int .i64 (W.getD (k + 1 + j) 0))) : Sees H a (ints (W.eraseIdx k)) := by
  have hl : (W.eraseIdx k).length = W.length - 1 := List.length_eraseIdx_of_lt hk
  subst hg
  exact sees_intsF ha ho (by omega) (by omega) fun j hj => app2_erase W k hk j hj

theorem questionFewer_fn (l : List Int) (which ask : Int) (hl : all64 l) (hw : in64 which) (ha : in64 ask) : Fn Try.prog 7 [ints l, I which, I ask] (.bool true) := by
  obtain ⟨n, q, h1, h2, h3, h4, hany⟩ := worlds_fn l hl
  have hW0 := wsF_len l (2 ^ q) n
  have hC0 := csF_len l q
  have hpr := worlds_proper l n q h1 h2 h3 h4
  generalize wsF l (2 ^ q) n = W0 at *
  generalize csF l q = C0 at *
  obtain ⟨⟨z1, z2, z3⟩, z4, z5⟩ := proper_size hpr
  have hset := isSet_all W0
  have hap := proper_apart hpr hset.nodup hset.mem
  have hlen : (allI W0.length).length = n := by rw [allI_len, hW0]
  have hmem8 : ∀ i ∈ allI W0.length, 0 ≤ i ∧ i < 8 := fun i hi => by have := hset.mem i hi; omega
  have hbf := best_flw W0 C0 z5 (by omega) n _ hlen h1 hap
  have hbl := code_len W0 C0 z5 n _ hlen h1 hap
  have hfl := flw_long W0 C0 _ _ _ hbf
  have hrd := rd1_code (W := W0) (by omega) hbf hmem8
  have hfw := fun k hk => fewer_worlds hpr k hk
  have hfa := fun k hk => fewer_asks hpr (by omega) k hk (W' := _) rfl
  have f1 := best_fn W0 C0 (by omega) (by omega)
  rw [if_neg (by rw [hpr]; simp)] at f1
  generalize (best W0 C0 (allI W0.length)).1 = t at *
  generalize (best W0 C0 (allI W0.length)).2 = bn at *
  have e0 := encode_fn t (by omega)
  have e1 := is_fn (codeT t) (by omega)
  have hisF : isF (codeT t) = true := by unfold isF; rw [hrd]; simp
  rw [hisF] at e1
  obtain ⟨e2, _⟩ := long_fn (codeT t) (by omega) (codeT t).length 0 (by omega) (by omega) (by rw [List.drop_zero, hrd])
  rw [List.drop_zero, hrd] at e2
  obtain ⟨ka, hka, hkl⟩ : ∃ k : Nat, aroundF ask C0.length = k ∧ k < C0.length := by
    have := aroundF_bound ask C0.length (by omega)
    exact ⟨(aroundF ask C0.length).toNat, by omega, by omega⟩
  have g2 := around_fn ask C0.length ha (by omega)
  rw [hka] at g2
  obtain ⟨kw, hkw, hkwl⟩ : ∃ k : Nat, aroundF which W0.length = k ∧ k < W0.length := by
    have := aroundF_bound which W0.length (by omega)
    exact ⟨(aroundF which W0.length).toNat, by omega, by omega⟩
  have g1 := around_fn which W0.length hw (by omega)
  rw [hkw] at g1
  refine Fn.intro (fn := Try.f7) Try.call7 Try.func7 rfl mixed 26 [] [] [] (by kernel_rfl) (Nat.le_of_ble_eq_true rfl) (by simp [settled_ints, settled_I, settled_fn0, settled_intss, settled_bool, settled_tree, settled_nil]) (vc_soundN 1000 ?_); simp (config := { maxSteps := 2000000 }) only [AS.start, ↓wPre, wPost, List.getD_cons_succ, List.getD_cons_zero, List.set_cons_succ, List.set_cons_zero, List.map_cons, List.map_nil, List.all_cons, List.all_nil, List.length_cons, List.length_nil, List.cons_append, List.nil_append, List.append_nil, List.getElem?_cons_succ, List.getElem?_cons_zero, List.replicate_succ, List.replicate_zero, List.contains_cons, List.contains_nil, List.elem_cons, List.elem_nil, Nat.zero_add, Nat.add_zero, Nat.zero_lt_succ, Int.toNat_zero, Nat.min_self, Nat.zero_min, Nat.min_zero, Nat.sub_zero, Nat.zero_mul, Int.le_refl, Nat.le_refl, Option.getD_none, Option.getD_some, Int.toNat_one, Nat.lt_irrefl, Nat.mul_one, Bool.false_eq_true, Bool.true_eq_false, decide_true, decide_false, decide_eq_true_eq, decide_eq_false_iff_not, Bool.not_true, Bool.not_false, Bool.not_eq_true', Bool.not_eq_false', Bool.and_true, Bool.true_and, Bool.false_and, beq_self_eq_true, ite_true, ite_false, Option.map_some, Option.map_none, Option.isSome_some, true_and, and_true, false_and, and_false, not_true_eq_false, not_false_eq_true, false_implies, true_implies, implies_true, eq_self, ne_eq, or_true, true_or, or_false, false_or, Bool.or_false, Bool.or_true, Bool.false_or, Bool.true_or, Int.toNat_natCast, Int.natCast_nonneg, Int.ofNat_lt, Int.ofNat_le, Int.ofNat_inj, Int.ofNat_zero, ↓reduceIte, reduceIte, replT, filtT, countL, cls, look, aload, astore, aindex, afieldA, afield, aidx, apart, aslice, ibound, acap, azapp, abuildS, abuild, aFill, setL, zrep, asrc, aappend, aconv, alen, amake, amkmap, alookup, aupdate, aalloc, abox, newO, place, rd, Nat.reducePow, AV.isPtr, Nat.reduceLT, Nat.reduceLeDiff, Nat.reduceEqDiff, Nat.reduceAdd, Nat.reduceMul, Nat.reduceSub, Nat.reduceBEq, updL, cellsFrom, reduceCtorEq, ints, bools, intss, sl1, wFacts]
  refine call_fn hany rfl ?_
  simp only [↓wPre, wPost, List.getD_cons_succ, List.getD_cons_zero, List.set_cons_succ, List.set_cons_zero, List.map_cons, List.map_nil, List.all_cons, List.all_nil, List.length_cons, List.length_nil, List.cons_append, List.nil_append, List.append_nil, List.getElem?_cons_succ, List.getElem?_cons_zero, List.replicate_succ, List.replicate_zero, List.contains_cons, List.contains_nil, List.elem_cons, List.elem_nil, Nat.zero_add, Nat.add_zero, Nat.zero_lt_succ, Int.toNat_zero, Nat.min_self, Nat.zero_min, Nat.min_zero, Nat.sub_zero, Nat.zero_mul, Int.le_refl, Nat.le_refl, Option.getD_none, Option.getD_some, Int.toNat_one, Nat.lt_irrefl, Nat.mul_one, Bool.false_eq_true, Bool.true_eq_false, decide_true, decide_false, decide_eq_true_eq, decide_eq_false_iff_not, Bool.not_true, Bool.not_false, Bool.not_eq_true', Bool.not_eq_false', Bool.and_true, Bool.true_and, Bool.false_and, beq_self_eq_true, ite_true, ite_false, Option.map_some, Option.map_none, Option.isSome_some, true_and, and_true, false_and, and_false, not_true_eq_false, not_false_eq_true, false_implies, true_implies, implies_true, eq_self, ne_eq, or_true, true_or, or_false, false_or, Bool.or_false, Bool.or_true, Bool.false_or, Bool.true_or, Int.toNat_natCast, Int.natCast_nonneg, Int.ofNat_lt, Int.ofNat_le, Int.ofNat_inj, Int.ofNat_zero, ↓reduceIte, reduceIte, replT, filtT, countL, cls, look, aload, astore, aindex, afieldA, afield, aidx, apart, aslice, ibound, acap, azapp, abuildS, abuild, aFill, setL, zrep, asrc, aappend, aconv, alen, amake, amkmap, alookup, aupdate, aalloc, abox, newO, place, rd, Nat.reducePow, AV.isPtr, Nat.reduceLT, Nat.reduceLeDiff, Nat.reduceEqDiff, Nat.reduceAdd, Nat.reduceMul, Nat.reduceSub, Nat.reduceBEq, updL, cellsFrom, reduceCtorEq, ints, bools, intss, sl1, wFacts]
  refine call_fn f1 rfl ?_
  simp only [bne_self_eq_false, ↓wPre, wPost, List.getD_cons_succ, List.getD_cons_zero, List.set_cons_succ, List.set_cons_zero, List.map_cons, List.map_nil, List.all_cons, List.all_nil, List.length_cons, List.length_nil, List.cons_append, List.nil_append, List.append_nil, List.getElem?_cons_succ, List.getElem?_cons_zero, List.replicate_succ, List.replicate_zero, List.contains_cons, List.contains_nil, List.elem_cons, List.elem_nil, Nat.zero_add, Nat.add_zero, Nat.zero_lt_succ, Int.toNat_zero, Nat.min_self, Nat.zero_min, Nat.min_zero, Nat.sub_zero, Nat.zero_mul, Int.le_refl, Nat.le_refl, Option.getD_none, Option.getD_some, Int.toNat_one, Nat.lt_irrefl, Nat.mul_one, Bool.false_eq_true, Bool.true_eq_false, decide_true, decide_false, decide_eq_true_eq, decide_eq_false_iff_not, Bool.not_true, Bool.not_false, Bool.not_eq_true', Bool.not_eq_false', Bool.and_true, Bool.true_and, Bool.false_and, beq_self_eq_true, ite_true, ite_false, Option.map_some, Option.map_none, Option.isSome_some, true_and, and_true, false_and, and_false, not_true_eq_false, not_false_eq_true, false_implies, true_implies, implies_true, eq_self, ne_eq, or_true, true_or, or_false, false_or, Bool.or_false, Bool.or_true, Bool.false_or, Bool.true_or, Int.toNat_natCast, Int.natCast_nonneg, Int.ofNat_lt, Int.ofNat_le, Int.ofNat_inj, Int.ofNat_zero, ↓reduceIte, reduceIte, replT, filtT, countL, cls, look, aload, astore, aindex, afieldA, afield, aidx, apart, aslice, ibound, acap, azapp, abuildS, abuild, aFill, setL, zrep, asrc, aappend, aconv, alen, amake, amkmap, alookup, aupdate, aalloc, abox, newO, place, rd, Nat.reducePow, AV.isPtr, Nat.reduceLT, Nat.reduceLeDiff, Nat.reduceEqDiff, Nat.reduceAdd, Nat.reduceMul, Nat.reduceSub, Nat.reduceBEq, updL, cellsFrom, reduceCtorEq, ints, bools, intss, sl1, wFacts]
  have w1 := wj kw (by omega)
  refine ⟨fun hn1 => ?b1, fun hn1 => ?b2⟩
  case' b1 =>
    have m1 : ((kw : Int) - 0).toNat = kw := by omega
    have m2 : min kw W0.length = kw := by omega
    have m3 : ((W0.length : Int) - ((kw + 1 : Nat) : Int)).toNat = W0.length - (kw + 1) := by omega
    refine call_fn g1 rfl ?_
    simp only [w1, m1, m2, m3, ↓wPre, wPost, List.getD_cons_succ, List.getD_cons_zero, List.set_cons_succ, List.set_cons_zero, List.map_cons, List.map_nil, List.all_cons, List.all_nil, List.length_cons, List.length_nil, List.cons_append, List.nil_append, List.append_nil, List.getElem?_cons_succ, List.getElem?_cons_zero, List.replicate_succ, List.replicate_zero, List.contains_cons, List.contains_nil, List.elem_cons, List.elem_nil, Nat.zero_add, Nat.add_zero, Nat.zero_lt_succ, Int.toNat_zero, Nat.min_self, Nat.zero_min, Nat.min_zero, Nat.sub_zero, Nat.zero_mul, Int.le_refl, Nat.le_refl, Option.getD_none, Option.getD_some, Int.toNat_one, Nat.lt_irrefl, Nat.mul_one, Bool.false_eq_true, Bool.true_eq_false, decide_true, decide_false, decide_eq_true_eq, decide_eq_false_iff_not, Bool.not_true, Bool.not_false, Bool.not_eq_true', Bool.not_eq_false', Bool.and_true, Bool.true_and, Bool.false_and, beq_self_eq_true, ite_true, ite_false, Option.map_some, Option.map_none, Option.isSome_some, true_and, and_true, false_and, and_false, not_true_eq_false, not_false_eq_true, false_implies, true_implies, implies_true, eq_self, ne_eq, or_true, true_or, or_false, false_or, Bool.or_false, Bool.or_true, Bool.false_or, Bool.true_or, Int.toNat_natCast, Int.natCast_nonneg, Int.ofNat_lt, Int.ofNat_le, Int.ofNat_inj, Int.ofNat_zero, ↓reduceIte, reduceIte, replT, filtT, countL, cls, look, aload, astore, aindex, afieldA, afield, aidx, apart, aslice, ibound, acap, azapp, abuildS, abuild, aFill, setL, zrep, asrc, aappend, aconv, alen, amake, amkmap, alookup, aupdate, aalloc, abox, newO, place, rd, Nat.reducePow, AV.isPtr, Nat.reduceLT, Nat.reduceLeDiff, Nat.reduceEqDiff, Nat.reduceAdd, Nat.reduceMul, Nat.reduceSub, Nat.reduceBEq, updL, cellsFrom, reduceCtorEq, ints, bools, intss, sl1, wFacts]
    have r1 := best_fnR (W0.eraseIdx kw) C0 (by rw [List.length_eraseIdx_of_lt hkwl]; omega) (by omega)
    have r2 := hfw kw hkwl (by omega)
    have r3 : bestR (W0.eraseIdx kw) C0 = ((best (W0.eraseIdx kw) C0 (allI (W0.eraseIdx kw).length)).2, 0) := if_neg (by rw [proper_erase hpr kw hkwl (by omega)]; simp)
    rw [r3] at r1
    refine ⟨by omega, by omega, by omega, by omega, call_lent r1 rfl ⟨sees_erase hkwl rfl rfl rfl rfl rfl, (settled_ints _).sees _, trivial⟩ (flat_tup (by simp [flat_any, flat_int, I])) ?_⟩
    simp only [bne_self_eq_false, ↓wPre, wPost, List.getD_cons_succ, List.getD_cons_zero, List.set_cons_succ, List.set_cons_zero, List.map_cons, List.map_nil, List.all_cons, List.all_nil, List.length_cons, List.length_nil, List.cons_append, List.nil_append, List.append_nil, List.getElem?_cons_succ, List.getElem?_cons_zero, List.replicate_succ, List.replicate_zero, List.contains_cons, List.contains_nil, List.elem_cons, List.elem_nil, Nat.zero_add, Nat.add_zero, Nat.zero_lt_succ, Int.toNat_zero, Nat.min_self, Nat.zero_min, Nat.min_zero, Nat.sub_zero, Nat.zero_mul, Int.le_refl, Nat.le_refl, Option.getD_none, Option.getD_some, Int.toNat_one, Nat.lt_irrefl, Nat.mul_one, Bool.false_eq_true, Bool.true_eq_false, decide_true, decide_false, decide_eq_true_eq, decide_eq_false_iff_not, Bool.not_true, Bool.not_false, Bool.not_eq_true', Bool.not_eq_false', Bool.and_true, Bool.true_and, Bool.false_and, beq_self_eq_true, ite_true, ite_false, Option.map_some, Option.map_none, Option.isSome_some, true_and, and_true, false_and, and_false, not_true_eq_false, not_false_eq_true, false_implies, true_implies, implies_true, eq_self, ne_eq, or_true, true_or, or_false, false_or, Bool.or_false, Bool.or_true, Bool.false_or, Bool.true_or, Int.toNat_natCast, Int.natCast_nonneg, Int.ofNat_lt, Int.ofNat_le, Int.ofNat_inj, Int.ofNat_zero, ↓reduceIte, reduceIte, replT, filtT, countL, cls, look, aload, astore, aindex, afieldA, afield, aidx, apart, aslice, ibound, acap, azapp, abuildS, abuild, aFill, setL, zrep, asrc, aappend, aconv, alen, amake, amkmap, alookup, aupdate, aalloc, abox, newO, place, rd, Nat.reducePow, AV.isPtr, Nat.reduceLT, Nat.reduceLeDiff, Nat.reduceEqDiff, Nat.reduceAdd, Nat.reduceMul, Nat.reduceSub, Nat.reduceBEq, updL, cellsFrom, reduceCtorEq, ints, bools, intss, sl1, wFacts]
    refine ⟨fun h => absurd r2 (by omega), fun _ => ?_⟩
  all_goals
    refine call_fn g2 rfl ?_
    simp only [↓wPre, wPost, List.getD_cons_succ, List.getD_cons_zero, List.set_cons_succ, List.set_cons_zero, List.map_cons, List.map_nil, List.all_cons, List.all_nil, List.length_cons, List.length_nil, List.cons_append, List.nil_append, List.append_nil, List.getElem?_cons_succ, List.getElem?_cons_zero, List.replicate_succ, List.replicate_zero, List.contains_cons, List.contains_nil, List.elem_cons, List.elem_nil, Nat.zero_add, Nat.add_zero, Nat.zero_lt_succ, Int.toNat_zero, Nat.min_self, Nat.zero_min, Nat.min_zero, Nat.sub_zero, Nat.zero_mul, Int.le_refl, Nat.le_refl, Option.getD_none, Option.getD_some, Int.toNat_one, Nat.lt_irrefl, Nat.mul_one, Bool.false_eq_true, Bool.true_eq_false, decide_true, decide_false, decide_eq_true_eq, decide_eq_false_iff_not, Bool.not_true, Bool.not_false, Bool.not_eq_true', Bool.not_eq_false', Bool.and_true, Bool.true_and, Bool.false_and, beq_self_eq_true, ite_true, ite_false, Option.map_some, Option.map_none, Option.isSome_some, true_and, and_true, false_and, and_false, not_true_eq_false, not_false_eq_true, false_implies, true_implies, implies_true, eq_self, ne_eq, or_true, true_or, or_false, false_or, Bool.or_false, Bool.or_true, Bool.false_or, Bool.true_or, Int.toNat_natCast, Int.natCast_nonneg, Int.ofNat_lt, Int.ofNat_le, Int.ofNat_inj, Int.ofNat_zero, ↓reduceIte, reduceIte, replT, filtT, countL, cls, look, aload, astore, aindex, afieldA, afield, aidx, apart, aslice, ibound, acap, azapp, abuildS, abuild, aFill, setL, zrep, asrc, aappend, aconv, alen, amake, amkmap, alookup, aupdate, aalloc, abox, newO, place, rd, Nat.reducePow, AV.isPtr, Nat.reduceLT, Nat.reduceLeDiff, Nat.reduceEqDiff, Nat.reduceAdd, Nat.reduceMul, Nat.reduceSub, Nat.reduceBEq, updL, cellsFrom, reduceCtorEq, ints, bools, intss, sl1, wFacts]
    refine Run.sub (s' := ⟨26, [], [ints l, I which, I ask, .any, .any, .any, .bool false, ints W0, ints C0, treeA t, I bn, .any, .any, .any, .any, .any, I ka, .sl 0 0 (fun _ => .any) true, I 0, .any, .any, .any, .any, .any, .any, .any], [], []⟩) ?_
      (sub_cut (m := 0) (Nat.le_refl _) rfl ?_ ?_ ?_ ?_ ?_ ?_)
    rotate_left
    · simp [subL, ints, sl1, I]
    · simp [subT]
    · rfl
    ·
      intro a ha
      simp only [List.mem_cons, List.not_mem_nil, or_false] at ha
      rcases ha with rfl | rfl | rfl | rfl | rfl | rfl | rfl | rfl | rfl | rfl | rfl | rfl | rfl | rfl | rfl | rfl | rfl | rfl | rfl | rfl | rfl | rfl | rfl | rfl | rfl | rfl
      all_goals exact bel_of_settled (by first | simp [settled_ints, settled_I, settled_any, settled_bool, settled_tree]; done | exact settled_sl (by omega))
    · intro p hp; cases hp
    · intro o ho; cases ho
    clear hn1
    let R : Nat → List Int := fun j => (W0.take j).map fun w => dropQ w ka
    have hR : ∀ j, j ≤ W0.length → (R j).length = j := fun j hj => by simp [R]; omega
    have hRs : ∀ j, j < W0.length → R (j + 1) = R j ++ [dropQ (W0.getD j 0) ka] := fun j hj => by
      show (W0.take (j + 1)).map _ = _
      rw [take_succ_getD W0 0 j hj, List.map_append]; rfl
    refine run_loop (fun j : Nat => ⟨26, [], [ints l, I which, I ask, .any, .any, .any, .bool false, ints W0, ints C0, treeA t, I bn, .any, .any, .any, .any, .any, I ka, .osl 0 j 1 0 j, I j, .any, .any, .any, .any, .any, .any, .any], [], [.row j j (slF I 0 (R j))]⟩) (fun j => j ≤ W0.length) (fun j => W0.length - j) 0 (by omega)
      ((sub_adopt 17 1 (slF I 0 []) rfl).trans (sub_mk rfl ?_ ?_ ?_)) ?_
    · simp [subL, AS.put, ints, sl1, I]
    · simp [subT]
    · simp [AS.put, R]
    intro j hj next
    have w2 := wj j (by omega)
    have w3 := wj ka (by omega)
    refine vc_soundN 1000 ?_
    have m1 : ((ka : Int) - 0).toNat = ka := by omega
    have m2 : min ka C0.length = ka := by omega
    have m3 : ((C0.length : Int) - ((ka + 1 : Nat) : Int)).toNat = C0.length - (ka + 1) := by omega
    simp only [w2, w3, m1, m2, m3, ↓wPre, wPost, List.getD_cons_succ, List.getD_cons_zero, List.set_cons_succ, List.set_cons_zero, List.map_cons, List.map_nil, List.all_cons, List.all_nil, List.length_cons, List.length_nil, List.cons_append, List.nil_append, List.append_nil, List.getElem?_cons_succ, List.getElem?_cons_zero, List.replicate_succ, List.replicate_zero, List.contains_cons, List.contains_nil, List.elem_cons, List.elem_nil, Nat.zero_add, Nat.add_zero, Nat.zero_lt_succ, Int.toNat_zero, Nat.min_self, Nat.zero_min, Nat.min_zero, Nat.sub_zero, Nat.zero_mul, Int.le_refl, Nat.le_refl, Option.getD_none, Option.getD_some, Int.toNat_one, Nat.lt_irrefl, Nat.mul_one, Bool.false_eq_true, Bool.true_eq_false, decide_true, decide_false, decide_eq_true_eq, decide_eq_false_iff_not, Bool.not_true, Bool.not_false, Bool.not_eq_true', Bool.not_eq_false', Bool.and_true, Bool.true_and, Bool.false_and, beq_self_eq_true, ite_true, ite_false, Option.map_some, Option.map_none, Option.isSome_some, true_and, and_true, false_and, and_false, not_true_eq_false, not_false_eq_true, false_implies, true_implies, implies_true, eq_self, ne_eq, or_true, true_or, or_false, false_or, Bool.or_false, Bool.or_true, Bool.false_or, Bool.true_or, Int.toNat_natCast, Int.natCast_nonneg, Int.ofNat_lt, Int.ofNat_le, Int.ofNat_inj, Int.ofNat_zero, ↓reduceIte, reduceIte, replT, filtT, countL, cls, look, aload, astore, aindex, afieldA, afield, aidx, apart, aslice, ibound, acap, azapp, abuildS, abuild, aFill, setL, zrep, asrc, aappend, aconv, alen, amake, amkmap, alookup, aupdate, aalloc, abox, newO, place, rd, Nat.reducePow, AV.isPtr, Nat.reduceLT, Nat.reduceLeDiff, Nat.reduceEqDiff, Nat.reduceAdd, Nat.reduceMul, Nat.reduceSub, Nat.reduceBEq, updL, cellsFrom, reduceCtorEq, ints, bools, intss, sl1, wFacts]
    refine ⟨fun h => ⟨by omega, by omega, ⟨by omega, by omega⟩, next (j + 1) _ (by omega) (by omega) (sub_mk rfl ?_ ?_ ?_)⟩, fun h => ?_⟩
    · simp [subL, ints, sl1, I]
    · simp [subT]
    · have e := appF_I (R j) (dropQ (W0.getD j 0) ka)
      rw [hR j hj, ← hRs j h] at e
      rw [← e]; rfl
    have hjn : j = W0.length := by omega
    subst hjn
    have hRl : R W0.length = W0.map fun w => dropQ w ka := by
      show (W0.take W0.length).map _ = _
      rw [List.take_length]
    have b1 := best_fnR (W0.map fun w => dropQ w ka) (C0.eraseIdx ka) (by rw [List.length_map]; omega) (by rw [List.length_eraseIdx_of_lt hkl]; omega)
    have b2 : (bestR (W0.map fun w => dropQ w ka) (C0.eraseIdx ka)).2 = 0 ∧ bn ≤ (bestR (W0.map fun w => dropQ w ka) (C0.eraseIdx ka)).1 ∨ (bestR (W0.map fun w => dropQ w ka) (C0.eraseIdx ka)).2 = 1 := by
      by_cases hp : properF (W0.map fun w => dropQ w ka) (C0.eraseIdx ka) = 0
      · left
        have e : bestR (W0.map fun w => dropQ w ka) (C0.eraseIdx ka) = ((best (W0.map fun w => dropQ w ka) (C0.eraseIdx ka) (allI (W0.map fun w => dropQ w ka).length)).2, 0) := if_neg (by rw [hp]; simp)
        rw [e]
        exact ⟨rfl, hfa ka hkl hp⟩
      · right
        have e : bestR (W0.map fun w => dropQ w ka) (C0.eraseIdx ka) = (0, properF (W0.map fun w => dropQ w ka) (C0.eraseIdx ka)) := if_pos hp
        rw [e]
        have hs : sizeOk (W0.map fun w => dropQ w ka) (C0.eraseIdx ka) := by
          unfold sizeOk
          rw [List.length_map, List.length_eraseIdx_of_lt hkl]; omega
        unfold properF at hp ⊢
        rw [if_pos hs] at hp ⊢
        split at hp
        · exact absurd rfl hp
        · rename_i hb; exact if_neg hb
    generalize (bestR (W0.map fun w => dropQ w ka) (C0.eraseIdx ka)).1 = x at *
    generalize (bestR (W0.map fun w => dropQ w ka) (C0.eraseIdx ka)).2 = y at *
    refine ⟨by omega, by omega, by omega, by omega, call_lent b1 rfl ⟨sees_intsF rfl rfl (by rw [List.length_map]) (by rw [List.length_map]; exact Nat.le_refl _) (fun j _ => by rw [hRl]; rfl), sees_erase hkl rfl rfl rfl rfl rfl, trivial⟩ (flat_tup (by simp [flat_any, flat_int, I])) ?_⟩
    simp only [↓wPre, wPost, List.getD_cons_succ, List.getD_cons_zero, List.set_cons_succ, List.set_cons_zero, List.map_cons, List.map_nil, List.all_cons, List.all_nil, List.length_cons, List.length_nil, List.cons_append, List.nil_append, List.append_nil, List.getElem?_cons_succ, List.getElem?_cons_zero, List.replicate_succ, List.replicate_zero, List.contains_cons, List.contains_nil, List.elem_cons, List.elem_nil, Nat.zero_add, Nat.add_zero, Nat.zero_lt_succ, Int.toNat_zero, Nat.min_self, Nat.zero_min, Nat.min_zero, Nat.sub_zero, Nat.zero_mul, Int.le_refl, Nat.le_refl, Option.getD_none, Option.getD_some, Int.toNat_one, Nat.lt_irrefl, Nat.mul_one, Bool.false_eq_true, Bool.true_eq_false, decide_true, decide_false, decide_eq_true_eq, decide_eq_false_iff_not, Bool.not_true, Bool.not_false, Bool.not_eq_true', Bool.not_eq_false', Bool.and_true, Bool.true_and, Bool.false_and, beq_self_eq_true, ite_true, ite_false, Option.map_some, Option.map_none, Option.isSome_some, true_and, and_true, false_and, and_false, not_true_eq_false, not_false_eq_true, false_implies, true_implies, implies_true, eq_self, ne_eq, or_true, true_or, or_false, false_or, Bool.or_false, Bool.or_true, Bool.false_or, Bool.true_or, Int.toNat_natCast, Int.natCast_nonneg, Int.ofNat_lt, Int.ofNat_le, Int.ofNat_inj, Int.ofNat_zero, ↓reduceIte, reduceIte, replT, filtT, countL, cls, look, aload, astore, aindex, afieldA, afield, aidx, apart, aslice, ibound, acap, azapp, abuildS, abuild, aFill, setL, zrep, asrc, aappend, aconv, alen, amake, amkmap, alookup, aupdate, aalloc, abox, newO, place, rd, Nat.reducePow, AV.isPtr, Nat.reduceLT, Nat.reduceLeDiff, Nat.reduceEqDiff, Nat.reduceAdd, Nat.reduceMul, Nat.reduceSub, Nat.reduceBEq, updL, cellsFrom, reduceCtorEq, ints, bools, intss, sl1, wFacts]
    obtain ⟨P, hP⟩ : ∃ P : Nat, P = 2 ^ longT t := ⟨_, rfl⟩
    have hsh : ishl .i64 1 (longT t : Nat) = (P : Int) := by rw [ishl1 _ (by omega), hP]; simp
    rw [← hP] at hfl
    have q1 : W0.length ≤ P ∧ longT t < W0.length := by omega
    have d1 : decide ((1 : Int) = 0) = false := rfl
    have d2 : decide ((0 : Int) = 0) = true := rfl
    have d3 : decide ((1 : Int) = 1) = true := rfl
    have n1 : ¬ ((1 : Int) = 0) := by decide
    have x1 : ¬ (P < W0.length) := by omega
    have x2 : (W0.length ≤ P) = True := by simp; omega
    have x3 : (longT t < W0.length) = True := by simp; omega
    rcases b2 with ⟨rfl, b2⟩ | rfl
    · have x4 : (x < bn) = False := by simp; omega
      simp only [d1, d2, d3, n1, x4, ↓wPre, wPost, List.getD_cons_succ, List.getD_cons_zero, List.set_cons_succ, List.set_cons_zero, List.map_cons, List.map_nil, List.all_cons, List.all_nil, List.length_cons, List.length_nil, List.cons_append, List.nil_append, List.append_nil, List.getElem?_cons_succ, List.getElem?_cons_zero, List.replicate_succ, List.replicate_zero, List.contains_cons, List.contains_nil, List.elem_cons, List.elem_nil, Nat.zero_add, Nat.add_zero, Nat.zero_lt_succ, Int.toNat_zero, Nat.min_self, Nat.zero_min, Nat.min_zero, Nat.sub_zero, Nat.zero_mul, Int.le_refl, Nat.le_refl, Option.getD_none, Option.getD_some, Int.toNat_one, Nat.lt_irrefl, Nat.mul_one, Bool.false_eq_true, Bool.true_eq_false, decide_true, decide_false, decide_eq_true_eq, decide_eq_false_iff_not, Bool.not_true, Bool.not_false, Bool.not_eq_true', Bool.not_eq_false', Bool.and_true, Bool.true_and, Bool.false_and, beq_self_eq_true, ite_true, ite_false, Option.map_some, Option.map_none, Option.isSome_some, true_and, and_true, false_and, and_false, not_true_eq_false, not_false_eq_true, false_implies, true_implies, implies_true, eq_self, ne_eq, or_true, true_or, or_false, false_or, Bool.or_false, Bool.or_true, Bool.false_or, Bool.true_or, Int.toNat_natCast, Int.natCast_nonneg, Int.ofNat_lt, Int.ofNat_le, Int.ofNat_inj, Int.ofNat_zero, ↓reduceIte, reduceIte, replT, filtT, countL, cls, look, aload, astore, aindex, afieldA, afield, aidx, apart, aslice, ibound, acap, azapp, abuildS, abuild, aFill, setL, zrep, asrc, aappend, aconv, alen, amake, amkmap, alookup, aupdate, aalloc, abox, newO, place, rd, Nat.reducePow, AV.isPtr, Nat.reduceLT, Nat.reduceLeDiff, Nat.reduceEqDiff, Nat.reduceAdd, Nat.reduceMul, Nat.reduceSub, Nat.reduceBEq, updL, cellsFrom, reduceCtorEq, ints, bools, intss, sl1, wFacts]
      refine call_fn e0 (loose_tree _) ?_
      simp only [↓wPre, wPost, List.getD_cons_succ, List.getD_cons_zero, List.set_cons_succ, List.set_cons_zero, List.map_cons, List.map_nil, List.all_cons, List.all_nil, List.length_cons, List.length_nil, List.cons_append, List.nil_append, List.append_nil, List.getElem?_cons_succ, List.getElem?_cons_zero, List.replicate_succ, List.replicate_zero, List.contains_cons, List.contains_nil, List.elem_cons, List.elem_nil, Nat.zero_add, Nat.add_zero, Nat.zero_lt_succ, Int.toNat_zero, Nat.min_self, Nat.zero_min, Nat.min_zero, Nat.sub_zero, Nat.zero_mul, Int.le_refl, Nat.le_refl, Option.getD_none, Option.getD_some, Int.toNat_one, Nat.lt_irrefl, Nat.mul_one, Bool.false_eq_true, Bool.true_eq_false, decide_true, decide_false, decide_eq_true_eq, decide_eq_false_iff_not, Bool.not_true, Bool.not_false, Bool.not_eq_true', Bool.not_eq_false', Bool.and_true, Bool.true_and, Bool.false_and, beq_self_eq_true, ite_true, ite_false, Option.map_some, Option.map_none, Option.isSome_some, true_and, and_true, false_and, and_false, not_true_eq_false, not_false_eq_true, false_implies, true_implies, implies_true, eq_self, ne_eq, or_true, true_or, or_false, false_or, Bool.or_false, Bool.or_true, Bool.false_or, Bool.true_or, Int.toNat_natCast, Int.natCast_nonneg, Int.ofNat_lt, Int.ofNat_le, Int.ofNat_inj, Int.ofNat_zero, ↓reduceIte, reduceIte, replT, filtT, countL, cls, look, aload, astore, aindex, afieldA, afield, aidx, apart, aslice, ibound, acap, azapp, abuildS, abuild, aFill, setL, zrep, asrc, aappend, aconv, alen, amake, amkmap, alookup, aupdate, aalloc, abox, newO, place, rd, Nat.reducePow, AV.isPtr, Nat.reduceLT, Nat.reduceLeDiff, Nat.reduceEqDiff, Nat.reduceAdd, Nat.reduceMul, Nat.reduceSub, Nat.reduceBEq, updL, cellsFrom, reduceCtorEq, ints, bools, intss, sl1, wFacts]
      refine call_fn e1 rfl ?_
      simp only [↓wPre, wPost, List.getD_cons_succ, List.getD_cons_zero, List.set_cons_succ, List.set_cons_zero, List.map_cons, List.map_nil, List.all_cons, List.all_nil, List.length_cons, List.length_nil, List.cons_append, List.nil_append, List.append_nil, List.getElem?_cons_succ, List.getElem?_cons_zero, List.replicate_succ, List.replicate_zero, List.contains_cons, List.contains_nil, List.elem_cons, List.elem_nil, Nat.zero_add, Nat.add_zero, Nat.zero_lt_succ, Int.toNat_zero, Nat.min_self, Nat.zero_min, Nat.min_zero, Nat.sub_zero, Nat.zero_mul, Int.le_refl, Nat.le_refl, Option.getD_none, Option.getD_some, Int.toNat_one, Nat.lt_irrefl, Nat.mul_one, Bool.false_eq_true, Bool.true_eq_false, decide_true, decide_false, decide_eq_true_eq, decide_eq_false_iff_not, Bool.not_true, Bool.not_false, Bool.not_eq_true', Bool.not_eq_false', Bool.and_true, Bool.true_and, Bool.false_and, beq_self_eq_true, ite_true, ite_false, Option.map_some, Option.map_none, Option.isSome_some, true_and, and_true, false_and, and_false, not_true_eq_false, not_false_eq_true, false_implies, true_implies, implies_true, eq_self, ne_eq, or_true, true_or, or_false, false_or, Bool.or_false, Bool.or_true, Bool.false_or, Bool.true_or, Int.toNat_natCast, Int.natCast_nonneg, Int.ofNat_lt, Int.ofNat_le, Int.ofNat_inj, Int.ofNat_zero, ↓reduceIte, reduceIte, replT, filtT, countL, cls, look, aload, astore, aindex, afieldA, afield, aidx, apart, aslice, ibound, acap, azapp, abuildS, abuild, aFill, setL, zrep, asrc, aappend, aconv, alen, amake, amkmap, alookup, aupdate, aalloc, abox, newO, place, rd, Nat.reducePow, AV.isPtr, Nat.reduceLT, Nat.reduceLeDiff, Nat.reduceEqDiff, Nat.reduceAdd, Nat.reduceMul, Nat.reduceSub, Nat.reduceBEq, updL, cellsFrom, reduceCtorEq, ints, bools, intss, sl1, wFacts]
      refine call_fn e2 rfl ?_
      simp only [hsh, x1, x2, x3, ↓wPre, wPost, List.getD_cons_succ, List.getD_cons_zero, List.set_cons_succ, List.set_cons_zero, List.map_cons, List.map_nil, List.all_cons, List.all_nil, List.length_cons, List.length_nil, List.cons_append, List.nil_append, List.append_nil, List.getElem?_cons_succ, List.getElem?_cons_zero, List.replicate_succ, List.replicate_zero, List.contains_cons, List.contains_nil, List.elem_cons, List.elem_nil, Nat.zero_add, Nat.add_zero, Nat.zero_lt_succ, Int.toNat_zero, Nat.min_self, Nat.zero_min, Nat.min_zero, Nat.sub_zero, Nat.zero_mul, Int.le_refl, Nat.le_refl, Option.getD_none, Option.getD_some, Int.toNat_one, Nat.lt_irrefl, Nat.mul_one, Bool.false_eq_true, Bool.true_eq_false, decide_true, decide_false, decide_eq_true_eq, decide_eq_false_iff_not, Bool.not_true, Bool.not_false, Bool.not_eq_true', Bool.not_eq_false', Bool.and_true, Bool.true_and, Bool.false_and, beq_self_eq_true, ite_true, ite_false, Option.map_some, Option.map_none, Option.isSome_some, true_and, and_true, false_and, and_false, not_true_eq_false, not_false_eq_true, false_implies, true_implies, implies_true, eq_self, ne_eq, or_true, true_or, or_false, false_or, Bool.or_false, Bool.or_true, Bool.false_or, Bool.true_or, Int.toNat_natCast, Int.natCast_nonneg, Int.ofNat_lt, Int.ofNat_le, Int.ofNat_inj, Int.ofNat_zero, ↓reduceIte, reduceIte, replT, filtT, countL, cls, look, aload, astore, aindex, afieldA, afield, aidx, apart, aslice, ibound, acap, azapp, abuildS, abuild, aFill, setL, zrep, asrc, aappend, aconv, alen, amake, amkmap, alookup, aupdate, aalloc, abox, newO, place, rd, Nat.reducePow, AV.isPtr, Nat.reduceLT, Nat.reduceLeDiff, Nat.reduceEqDiff, Nat.reduceAdd, Nat.reduceMul, Nat.reduceSub, Nat.reduceBEq, updL, cellsFrom, reduceCtorEq, ints, bools, intss, sl1, wFacts]
      refine call_fn lives_fn rfl ?_
      simp only [↓wPre, wPost, List.getD_cons_succ, List.getD_cons_zero, List.set_cons_succ, List.set_cons_zero, List.map_cons, List.map_nil, List.all_cons, List.all_nil, List.length_cons, List.length_nil, List.cons_append, List.nil_append, List.append_nil, List.getElem?_cons_succ, List.getElem?_cons_zero, List.replicate_succ, List.replicate_zero, List.contains_cons, List.contains_nil, List.elem_cons, List.elem_nil, Nat.zero_add, Nat.add_zero, Nat.zero_lt_succ, Int.toNat_zero, Nat.min_self, Nat.zero_min, Nat.min_zero, Nat.sub_zero, Nat.zero_mul, Int.le_refl, Nat.le_refl, Option.getD_none, Option.getD_some, Int.toNat_one, Nat.lt_irrefl, Nat.mul_one, Bool.false_eq_true, Bool.true_eq_false, decide_true, decide_false, decide_eq_true_eq, decide_eq_false_iff_not, Bool.not_true, Bool.not_false, Bool.not_eq_true', Bool.not_eq_false', Bool.and_true, Bool.true_and, Bool.false_and, beq_self_eq_true, ite_true, ite_false, Option.map_some, Option.map_none, Option.isSome_some, true_and, and_true, false_and, and_false, not_true_eq_false, not_false_eq_true, false_implies, true_implies, implies_true, eq_self, ne_eq, or_true, true_or, or_false, false_or, Bool.or_false, Bool.or_true, Bool.false_or, Bool.true_or, Int.toNat_natCast, Int.natCast_nonneg, Int.ofNat_lt, Int.ofNat_le, Int.ofNat_inj, Int.ofNat_zero, ↓reduceIte, reduceIte, replT, filtT, countL, cls, look, aload, astore, aindex, afieldA, afield, aidx, apart, aslice, ibound, acap, azapp, abuildS, abuild, aFill, setL, zrep, asrc, aappend, aconv, alen, amake, amkmap, alookup, aupdate, aalloc, abox, newO, place, rd, Nat.reducePow, AV.isPtr, Nat.reduceLT, Nat.reduceLeDiff, Nat.reduceEqDiff, Nat.reduceAdd, Nat.reduceMul, Nat.reduceSub, Nat.reduceBEq, updL, cellsFrom, reduceCtorEq, ints, bools, intss, sl1, wFacts]
      exact ret1E rfl rfl (settled_bool _) rfl
    · simp only [d1, d2, d3, n1, bne_self_eq_false, ↓wPre, wPost, List.getD_cons_succ, List.getD_cons_zero, List.set_cons_succ, List.set_cons_zero, List.map_cons, List.map_nil, List.all_cons, List.all_nil, List.length_cons, List.length_nil, List.cons_append, List.nil_append, List.append_nil, List.getElem?_cons_succ, List.getElem?_cons_zero, List.replicate_succ, List.replicate_zero, List.contains_cons, List.contains_nil, List.elem_cons, List.elem_nil, Nat.zero_add, Nat.add_zero, Nat.zero_lt_succ, Int.toNat_zero, Nat.min_self, Nat.zero_min, Nat.min_zero, Nat.sub_zero, Nat.zero_mul, Int.le_refl, Nat.le_refl, Option.getD_none, Option.getD_some, Int.toNat_one, Nat.lt_irrefl, Nat.mul_one, Bool.false_eq_true, Bool.true_eq_false, decide_true, decide_false, decide_eq_true_eq, decide_eq_false_iff_not, Bool.not_true, Bool.not_false, Bool.not_eq_true', Bool.not_eq_false', Bool.and_true, Bool.true_and, Bool.false_and, beq_self_eq_true, ite_true, ite_false, Option.map_some, Option.map_none, Option.isSome_some, true_and, and_true, false_and, and_false, not_true_eq_false, not_false_eq_true, false_implies, true_implies, implies_true, eq_self, ne_eq, or_true, true_or, or_false, false_or, Bool.or_false, Bool.or_true, Bool.false_or, Bool.true_or, Int.toNat_natCast, Int.natCast_nonneg, Int.ofNat_lt, Int.ofNat_le, Int.ofNat_inj, Int.ofNat_zero, ↓reduceIte, reduceIte, replT, filtT, countL, cls, look, aload, astore, aindex, afieldA, afield, aidx, apart, aslice, ibound, acap, azapp, abuildS, abuild, aFill, setL, zrep, asrc, aappend, aconv, alen, amake, amkmap, alookup, aupdate, aalloc, abox, newO, place, rd, Nat.reducePow, AV.isPtr, Nat.reduceLT, Nat.reduceLeDiff, Nat.reduceEqDiff, Nat.reduceAdd, Nat.reduceMul, Nat.reduceSub, Nat.reduceBEq, updL, cellsFrom, reduceCtorEq, ints, bools, intss, sl1, wFacts]
      refine call_fn e0 (loose_tree _) ?_
      simp only [↓wPre, wPost, List.getD_cons_succ, List.getD_cons_zero, List.set_cons_succ, List.set_cons_zero, List.map_cons, List.map_nil, List.all_cons, List.all_nil, List.length_cons, List.length_nil, List.cons_append, List.nil_append, List.append_nil, List.getElem?_cons_succ, List.getElem?_cons_zero, List.replicate_succ, List.replicate_zero, List.contains_cons, List.contains_nil, List.elem_cons, List.elem_nil, Nat.zero_add, Nat.add_zero, Nat.zero_lt_succ, Int.toNat_zero, Nat.min_self, Nat.zero_min, Nat.min_zero, Nat.sub_zero, Nat.zero_mul, Int.le_refl, Nat.le_refl, Option.getD_none, Option.getD_some, Int.toNat_one, Nat.lt_irrefl, Nat.mul_one, Bool.false_eq_true, Bool.true_eq_false, decide_true, decide_false, decide_eq_true_eq, decide_eq_false_iff_not, Bool.not_true, Bool.not_false, Bool.not_eq_true', Bool.not_eq_false', Bool.and_true, Bool.true_and, Bool.false_and, beq_self_eq_true, ite_true, ite_false, Option.map_some, Option.map_none, Option.isSome_some, true_and, and_true, false_and, and_false, not_true_eq_false, not_false_eq_true, false_implies, true_implies, implies_true, eq_self, ne_eq, or_true, true_or, or_false, false_or, Bool.or_false, Bool.or_true, Bool.false_or, Bool.true_or, Int.toNat_natCast, Int.natCast_nonneg, Int.ofNat_lt, Int.ofNat_le, Int.ofNat_inj, Int.ofNat_zero, ↓reduceIte, reduceIte, replT, filtT, countL, cls, look, aload, astore, aindex, afieldA, afield, aidx, apart, aslice, ibound, acap, azapp, abuildS, abuild, aFill, setL, zrep, asrc, aappend, aconv, alen, amake, amkmap, alookup, aupdate, aalloc, abox, newO, place, rd, Nat.reducePow, AV.isPtr, Nat.reduceLT, Nat.reduceLeDiff, Nat.reduceEqDiff, Nat.reduceAdd, Nat.reduceMul, Nat.reduceSub, Nat.reduceBEq, updL, cellsFrom, reduceCtorEq, ints, bools, intss, sl1, wFacts]
      refine call_fn e1 rfl ?_
      simp only [↓wPre, wPost, List.getD_cons_succ, List.getD_cons_zero, List.set_cons_succ, List.set_cons_zero, List.map_cons, List.map_nil, List.all_cons, List.all_nil, List.length_cons, List.length_nil, List.cons_append, List.nil_append, List.append_nil, List.getElem?_cons_succ, List.getElem?_cons_zero, List.replicate_succ, List.replicate_zero, List.contains_cons, List.contains_nil, List.elem_cons, List.elem_nil, Nat.zero_add, Nat.add_zero, Nat.zero_lt_succ, Int.toNat_zero, Nat.min_self, Nat.zero_min, Nat.min_zero, Nat.sub_zero, Nat.zero_mul, Int.le_refl, Nat.le_refl, Option.getD_none, Option.getD_some, Int.toNat_one, Nat.lt_irrefl, Nat.mul_one, Bool.false_eq_true, Bool.true_eq_false, decide_true, decide_false, decide_eq_true_eq, decide_eq_false_iff_not, Bool.not_true, Bool.not_false, Bool.not_eq_true', Bool.not_eq_false', Bool.and_true, Bool.true_and, Bool.false_and, beq_self_eq_true, ite_true, ite_false, Option.map_some, Option.map_none, Option.isSome_some, true_and, and_true, false_and, and_false, not_true_eq_false, not_false_eq_true, false_implies, true_implies, implies_true, eq_self, ne_eq, or_true, true_or, or_false, false_or, Bool.or_false, Bool.or_true, Bool.false_or, Bool.true_or, Int.toNat_natCast, Int.natCast_nonneg, Int.ofNat_lt, Int.ofNat_le, Int.ofNat_inj, Int.ofNat_zero, ↓reduceIte, reduceIte, replT, filtT, countL, cls, look, aload, astore, aindex, afieldA, afield, aidx, apart, aslice, ibound, acap, azapp, abuildS, abuild, aFill, setL, zrep, asrc, aappend, aconv, alen, amake, amkmap, alookup, aupdate, aalloc, abox, newO, place, rd, Nat.reducePow, AV.isPtr, Nat.reduceLT, Nat.reduceLeDiff, Nat.reduceEqDiff, Nat.reduceAdd, Nat.reduceMul, Nat.reduceSub, Nat.reduceBEq, updL, cellsFrom, reduceCtorEq, ints, bools, intss, sl1, wFacts]
      refine call_fn e2 rfl ?_
      simp only [hsh, x1, x2, x3, ↓wPre, wPost, List.getD_cons_succ, List.getD_cons_zero, List.set_cons_succ, List.set_cons_zero, List.map_cons, List.map_nil, List.all_cons, List.all_nil, List.length_cons, List.length_nil, List.cons_append, List.nil_append, List.append_nil, List.getElem?_cons_succ, List.getElem?_cons_zero, List.replicate_succ, List.replicate_zero, List.contains_cons, List.contains_nil, List.elem_cons, List.elem_nil, Nat.zero_add, Nat.add_zero, Nat.zero_lt_succ, Int.toNat_zero, Nat.min_self, Nat.zero_min, Nat.min_zero, Nat.sub_zero, Nat.zero_mul, Int.le_refl, Nat.le_refl, Option.getD_none, Option.getD_some, Int.toNat_one, Nat.lt_irrefl, Nat.mul_one, Bool.false_eq_true, Bool.true_eq_false, decide_true, decide_false, decide_eq_true_eq, decide_eq_false_iff_not, Bool.not_true, Bool.not_false, Bool.not_eq_true', Bool.not_eq_false', Bool.and_true, Bool.true_and, Bool.false_and, beq_self_eq_true, ite_true, ite_false, Option.map_some, Option.map_none, Option.isSome_some, true_and, and_true, false_and, and_false, not_true_eq_false, not_false_eq_true, false_implies, true_implies, implies_true, eq_self, ne_eq, or_true, true_or, or_false, false_or, Bool.or_false, Bool.or_true, Bool.false_or, Bool.true_or, Int.toNat_natCast, Int.natCast_nonneg, Int.ofNat_lt, Int.ofNat_le, Int.ofNat_inj, Int.ofNat_zero, ↓reduceIte, reduceIte, replT, filtT, countL, cls, look, aload, astore, aindex, afieldA, afield, aidx, apart, aslice, ibound, acap, azapp, abuildS, abuild, aFill, setL, zrep, asrc, aappend, aconv, alen, amake, amkmap, alookup, aupdate, aalloc, abox, newO, place, rd, Nat.reducePow, AV.isPtr, Nat.reduceLT, Nat.reduceLeDiff, Nat.reduceEqDiff, Nat.reduceAdd, Nat.reduceMul, Nat.reduceSub, Nat.reduceBEq, updL, cellsFrom, reduceCtorEq, ints, bools, intss, sl1, wFacts]
      refine call_fn lives_fn rfl ?_
      simp only [↓wPre, wPost, List.getD_cons_succ, List.getD_cons_zero, List.set_cons_succ, List.set_cons_zero, List.map_cons, List.map_nil, List.all_cons, List.all_nil, List.length_cons, List.length_nil, List.cons_append, List.nil_append, List.append_nil, List.getElem?_cons_succ, List.getElem?_cons_zero, List.replicate_succ, List.replicate_zero, List.contains_cons, List.contains_nil, List.elem_cons, List.elem_nil, Nat.zero_add, Nat.add_zero, Nat.zero_lt_succ, Int.toNat_zero, Nat.min_self, Nat.zero_min, Nat.min_zero, Nat.sub_zero, Nat.zero_mul, Int.le_refl, Nat.le_refl, Option.getD_none, Option.getD_some, Int.toNat_one, Nat.lt_irrefl, Nat.mul_one, Bool.false_eq_true, Bool.true_eq_false, decide_true, decide_false, decide_eq_true_eq, decide_eq_false_iff_not, Bool.not_true, Bool.not_false, Bool.not_eq_true', Bool.not_eq_false', Bool.and_true, Bool.true_and, Bool.false_and, beq_self_eq_true, ite_true, ite_false, Option.map_some, Option.map_none, Option.isSome_some, true_and, and_true, false_and, and_false, not_true_eq_false, not_false_eq_true, false_implies, true_implies, implies_true, eq_self, ne_eq, or_true, true_or, or_false, false_or, Bool.or_false, Bool.or_true, Bool.false_or, Bool.true_or, Int.toNat_natCast, Int.natCast_nonneg, Int.ofNat_lt, Int.ofNat_le, Int.ofNat_inj, Int.ofNat_zero, ↓reduceIte, reduceIte, replT, filtT, countL, cls, look, aload, astore, aindex, afieldA, afield, aidx, apart, aslice, ibound, acap, azapp, abuildS, abuild, aFill, setL, zrep, asrc, aappend, aconv, alen, amake, amkmap, alookup, aupdate, aalloc, abox, newO, place, rd, Nat.reducePow, AV.isPtr, Nat.reduceLT, Nat.reduceLeDiff, Nat.reduceEqDiff, Nat.reduceAdd, Nat.reduceMul, Nat.reduceSub, Nat.reduceBEq, updL, cellsFrom, reduceCtorEq, ints, bools, intss, sl1, wFacts]
      exact ret1E rfl rfl (settled_bool _) rfl
end
end Go.Ab.Q
