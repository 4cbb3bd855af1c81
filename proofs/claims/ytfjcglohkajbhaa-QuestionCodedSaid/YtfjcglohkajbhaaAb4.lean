/- A layer of abstract values and heaps over the model; what is proved here is that its steps and contracts are sound, for every program. -/
import Derived.Test.YtfjcglohkajbhaaAb3
import Derived.WalkKit
import Derived.ProofKit
import Derived.OpenShut
import Derived.JoinedCond
import Derived.Carry
set_option linter.unusedSimpArgs false
set_option linter.unusedVariables false
namespace Go.Ab
open Go Go.RowKit
noncomputable section

/-- The objects from the m-th on are forgotten: the rest is a heap. -/
theorem hrel_take {c : Ctx} (hr : HRel c) (m : Nat) (hO : ∀ o ∈ c.H.take m, belO m o) : HRel ⟨c.w, c.S, c.γ, c.H.take m⟩ := by
  have hget : ∀ (i : Nat) (o : AO), (c.H.take m)[i]? = some o → c.H[i]? = some o ∧ i < m := by
    intro i o ho
    rw [List.getElem?_take] at ho
    split at ho
    · exact ⟨ho, by assumption⟩
    · cases ho
  have hmem : ∀ (i : Nat) (o : AO), (c.H.take m)[i]? = some o → belO m o := fun i o ho => hO o (List.mem_of_getElem? ho)
  refine ⟨?_, ?_, ?_, ?_, hr.bound⟩
  · intro id v n f ho
    have hb := hmem _ _ ho
    rcases hr.row id v n f (hget _ _ ho).1 with h | ⟨b, sz, cs, el, g1, g2, g3, g4, g5, g6⟩
    · exact .inl h
    · exact .inr ⟨b, sz, cs, el, g1, g2, g3, g4, g5, fun j hj => hb j hj c _ (g6 j hj)⟩
  · intro id v n f ho
    have hb := hmem _ _ ho
    rcases hr.con id v n f (hget _ _ ho).1 with h | ⟨b, sz, cs, el, fr, g1, g2, g3, g4, g5, g6⟩
    · exact .inl h
    · exact .inr ⟨b, sz, cs, el, fr, g1, g2, g3, g4, g5, fun j hj => hb j hj c _ (g6 j hj)⟩
  · intro id k g ho
    have hb := hmem _ _ ho
    obtain ⟨b, sz, es, cl, g1, g2, g3, g4⟩ := hr.map id k g (hget _ _ ho).1
    exact ⟨b, sz, es, cl, g1, g2, g3, g4.keys, g4.uniq, fun n a hn => let ⟨e, he, hk, hr⟩ := g4.hit n a hn; ⟨e, he, hk, hb n a hn c _ hr⟩, g4.miss⟩
  · intro i i' o o' b sz sz' ho ho' g1 g2 hg hg'
    exact hr.inj _ _ _ _ _ _ _ (hget _ _ ho).1 (hget _ _ ho').1 g1 g2 hg hg'

theorem hle_more {w : World} {S : Nat → Prop} {γ γ' : Nat → Option (Nat × Nat)} {H rest : List AO} (hγ : ∀ id, id < H.length → γ' id = γ id) (w' : World) (S' : Nat → Prop) : HLe ⟨w, S, γ, H⟩ ⟨w', S', γ', H ++ rest⟩ := by
  intro id o ho
  have ho' : H[id]? = some o := ho
  have hlt := (List.getElem?_eq_some_iff.1 ho').1
  have h1 : (H ++ rest)[id]? = some o := by rw [List.getElem?_append_left hlt]; exact ho
  have hg := hγ id hlt
  cases o with
  | unborn => trivial
  | dead => exact h1
  | row v _ _ => exact .inr ⟨v, by simp [inf, h1, AO.info], .inr ⟨rfl, hg⟩⟩
  | con v _ _ => exact .inr ⟨v, by simp [inf, h1, AO.info], .inr ⟨rfl, hg⟩⟩
  | map k g => exact .inr ⟨⟨k, g, h1⟩, hg⟩

/-- THE FRAME: what works on the first objects leaves the others as they are. -/
theorem HCall.frame {P : Program} {f : FuncId} {args : List AV} {H1 H1' : List AO} {v : AV} (h : HCall P f args H1 v H1') (hlen : H1'.length = H1.length) (hb : ∀ a ∈ args, Bel H1.length a) (hO : ∀ o ∈ H1, belO H1.length o) (rest : List AO) :
    HCall P f args (H1 ++ rest) v (H1' ++ rest) := by
  refine ⟨h.1, fun c vs hH hr hv => ?_⟩
  have htake : c.H.take H1.length = H1 := by rw [hH]; simp
  have hr1 : HRel ⟨c.w, c.S, c.γ, H1⟩ := by
    have := hrel_take hr H1.length (by rw [htake]; exact hO)
    rwa [htake] at this
  have hv1 : RepL ⟨c.w, c.S, c.γ, H1⟩ vs args := ⟨hv.1, fun j hj => by
    have hmem : args.getD j .any ∈ args := by rw [List.getD_eq_getElem?_getD, List.getElem?_eq_getElem hj]; exact List.getElem_mem _
    have := hb _ hmem c _ (hv.2 j hj)
    rwa [htake] at this⟩
  have old : ∀ (id : Nat) (o : AO), H1[id]? = some o → c.H[id]? = some o := fun id o ho => by
    rw [hH, List.getElem?_append_left (List.getElem?_eq_some_iff.1 ho).1]; exact ho
  have own1 : ∀ b, owns ⟨c.w, c.S, c.γ, H1⟩ b → owns c b := fun b ⟨id, o, sz, ho, hown, hg⟩ => ⟨id, o, sz, old id o ho, hown, hg⟩
  refine (h.2 ⟨c.w, c.S, c.γ, H1⟩ vs rfl hr1 hv1).mono ?_
  rintro e w' ⟨x, S', γ', rfl, hx, hr', hext⟩
  let γ2 : Nat → Option (Nat × Nat) := fun id => if id < H1.length then γ' id else c.γ id
  have g2a : ∀ id, id < H1.length → γ2 id = γ' id := fun id hid => if_pos hid
  have g2b : ∀ id, ¬ id < H1.length → γ2 id = c.γ id := fun id hid => if_neg hid
  have newAt : ∀ (id : Nat) (o : AO), (H1' ++ rest)[id]? = some o → (id < H1.length ∧ H1'[id]? = some o) ∨ (¬ id < H1.length ∧ c.H[id]? = some o) := by
    intro id o ho
    by_cases hid : id < H1.length
    · exact .inl ⟨hid, by rwa [List.getElem?_append_left (by omega)] at ho⟩
    · refine .inr ⟨hid, ?_⟩
      rw [List.getElem?_append_right (by omega), hlen] at ho
      rw [hH, List.getElem?_append_right (by omega)]; exact ho
  have lift : ∀ {u a}, Rep ⟨w', S', γ', H1'⟩ u a → Rep ⟨w', S', γ2, H1' ++ rest⟩ u a := fun hu =>
    hu.ext (fun _ h => h) (fun _ _ => rfl) (hle_more (fun id hid => g2a id (by rw [← hlen]; exact hid)) _ _)
  -- a block of an object that is not among the first
  have apart : ∀ (id : Nat) (o : AO) (b sz : Nat), ¬ id < H1.length → c.H[id]? = some o → o.owned = true → c.γ id = some (b, sz) → ¬ owns ⟨c.w, c.S, c.γ, H1⟩ b := by
    rintro id o b sz hid ho hown hg ⟨id', o', sz', ho', hown', hg'⟩
    have := hr.inj id id' o o' b sz sz' ho (old id' o' ho') hown hown' hg hg'
    have hlt := (List.getElem?_eq_some_iff.1 (show H1[id']? = some o' from ho')).1
    omega
  have hextC : Ext c ⟨w', S', γ2, H1' ++ rest⟩ := by
    refine ⟨?_, hext.smono, fun b hb => (hext.snew b hb).imp id (Or.imp id (own1 b)), ?_, fun b hlt hno => hext.same b hlt (fun ho => hno (own1 b ho)), hext.size, hext.os, hext.tape, hext.output⟩
    · intro id o ho
      by_cases hid : id < H1.length
      · have ho1 : H1[id]? = some o := by rw [hH, List.getElem?_append_left hid] at ho; exact ho
        have h1 := hext.hle id o ho1
        have hinf : inf (H1' ++ rest) id = inf H1' id := by unfold inf; rw [List.getElem?_append_left (by omega)]
        have hget : (H1' ++ rest)[id]? = H1'[id]? := List.getElem?_append_left (by omega)
        cases o with
        | unborn => trivial
        | dead => show (H1' ++ rest)[id]? = _; rw [hget]; exact h1
        | row v _ _ =>
          show (H1' ++ rest)[id]? = _ ∨ ∃ v', inf (H1' ++ rest) id = _ ∧ (_ ∨ (_ ∧ γ2 id = _))
          rw [hget, hinf, g2a id hid]; exact h1
        | con v _ _ =>
          show (H1' ++ rest)[id]? = _ ∨ ∃ v', inf (H1' ++ rest) id = _ ∧ (_ ∨ (_ ∧ γ2 id = _))
          rw [hget, hinf, g2a id hid]; exact h1
        | map k g =>
          show (H1' ++ rest)[id]? = _ ∨ ((∃ k g, (H1' ++ rest)[id]? = _) ∧ γ2 id = _)
          rw [hget, g2a id hid]; exact h1
      · have hget : (H1' ++ rest)[id]? = c.H[id]? := by rw [List.getElem?_append_right (by omega), hlen, hH, List.getElem?_append_right (by omega)]
        have hinf : inf (H1' ++ rest) id = inf c.H id := by unfold inf; rw [hget]
        have h1 := HLe.refl c id o ho
        cases o with
        | unborn => trivial
        | dead => show (H1' ++ rest)[id]? = _; rw [hget]; exact h1
        | row v _ _ =>
          show (H1' ++ rest)[id]? = _ ∨ ∃ v', inf (H1' ++ rest) id = _ ∧ (_ ∨ (_ ∧ γ2 id = _))
          rw [hget, hinf, g2b id hid]; exact h1
        | con v _ _ =>
          show (H1' ++ rest)[id]? = _ ∨ ∃ v', inf (H1' ++ rest) id = _ ∧ (_ ∨ (_ ∧ γ2 id = _))
          rw [hget, hinf, g2b id hid]; exact h1
        | map k g =>
          show (H1' ++ rest)[id]? = _ ∨ ((∃ k g, (H1' ++ rest)[id]? = _) ∧ γ2 id = _)
          rw [hget, g2b id hid]; exact h1
    · rintro b ⟨id, o, sz, ho, hown, hg⟩
      rcases newAt id o ho with ⟨hid, ho'⟩ | ⟨hid, ho'⟩
      · exact (hext.onew b ⟨id, o, sz, ho', hown, (g2a id hid).symm.trans hg⟩).imp (fun h => h) (own1 b)
      · exact .inr ⟨id, o, sz, ho', hown, (g2b id hid).symm.trans hg⟩
  have keep : ∀ (id : Nat) (o : AO) (b sz : Nat), ¬ id < H1.length → c.H[id]? = some o → o.owned = true → c.γ id = some (b, sz) → b < c.w.heap.size → ¬ c.S b → w'.heap[b]? = c.w.heap[b]? ∧ ¬ S' b := by
    intro id o b sz hid ho hown hg hlt hnS
    have hno := apart id o b sz hid ho hown hg
    refine ⟨hext.same b hlt hno, fun hs => ?_⟩
    rcases hext.snew b hs with h | h | h
    · exact hnS h
    · exact absurd hlt (Nat.not_lt.2 h)
    · exact hno h
  refine ⟨x, S', γ2, rfl, lift hx, ⟨?_, ?_, ?_, ?_, hr'.bound⟩, hextC⟩
  · intro id ver n g ho
    rcases newAt id _ ho with ⟨hid, ho'⟩ | ⟨hid, ho'⟩
    · rw [show (⟨w', S', γ2, H1' ++ rest⟩ : Ctx).γ id = γ' id from g2a id hid]
      rcases hr'.row id ver n g ho' with h | ⟨b, sz, cs, el, k1, k2, k3, k4, k5, k6⟩
      · exact .inl h
      · exact .inr ⟨b, sz, cs, el, k1, k2, k3, k4, k5, fun j hj => lift (k6 j hj)⟩
    · rw [show (⟨w', S', γ2, H1' ++ rest⟩ : Ctx).γ id = c.γ id from g2b id hid]
      rcases hr.row id ver n g ho' with h | ⟨b, sz, cs, el, k1, k2, k3, k4, k5, k6⟩
      · exact .inl h
      · obtain ⟨q1, q2⟩ := keep id _ b sz hid ho' rfl k1 (Array.getElem?_eq_some_iff.1 k2).1 k5
        exact .inr ⟨b, sz, cs, el, k1, q1.trans k2, k3, k4, q2, fun j hj => hextC.rep hr (k6 j hj)⟩
  · intro id ver n g ho
    rcases newAt id _ ho with ⟨hid, ho'⟩ | ⟨hid, ho'⟩
    · rw [show (⟨w', S', γ2, H1' ++ rest⟩ : Ctx).γ id = γ' id from g2a id hid]
      rcases hr'.con id ver n g ho' with h | ⟨b, sz, cs, el, fr, k1, k2, k3, k4, k5, k6⟩
      · exact .inl h
      · exact .inr ⟨b, sz, cs, el, fr, k1, k2, k3, k4, k5, fun j hj => lift (k6 j hj)⟩
    · rw [show (⟨w', S', γ2, H1' ++ rest⟩ : Ctx).γ id = c.γ id from g2b id hid]
      rcases hr.con id ver n g ho' with h | ⟨b, sz, cs, el, fr, k1, k2, k3, k4, k5, k6⟩
      · exact .inl h
      · have hno : ¬ owns ⟨c.w, c.S, c.γ, H1⟩ b := fun h => hr.notOwn k5 (own1 b h)
        exact .inr ⟨b, sz, cs, el, fr, k1, (hext.same b (hr.bound b k5) hno).trans k2, k3, k4, hext.smono b k5, fun j hj => hextC.rep hr (k6 j hj)⟩
  · intro id k g ho
    rcases newAt id _ ho with ⟨hid, ho'⟩ | ⟨hid, ho'⟩
    · rw [show (⟨w', S', γ2, H1' ++ rest⟩ : Ctx).γ id = γ' id from g2a id hid]
      obtain ⟨b, sz, es, cl, k1, k2, k3, k4⟩ := hr'.map id k g ho'
      exact ⟨b, sz, es, cl, k1, k2, k3, k4.ext fun v a hv => lift hv⟩
    · rw [show (⟨w', S', γ2, H1' ++ rest⟩ : Ctx).γ id = c.γ id from g2b id hid]
      obtain ⟨b, sz, es, cl, k1, k2, k3, k4⟩ := hr.map id k g ho'
      obtain ⟨q1, q2⟩ := keep id _ b sz hid ho' rfl k1 (Array.getElem?_eq_some_iff.1 k2).1 k3
      exact ⟨b, sz, es, cl, k1, q1.trans k2, q2, k4.ext fun v a hv => hextC.rep hr hv⟩
  · have mix : ∀ (id id' : Nat) (o o' : AO) (b sz sz' : Nat), id < H1.length → H1'[id]? = some o → o.owned = true → γ' id = some (b, sz) → ¬ id' < H1.length → c.H[id']? = some o' → o'.owned = true → c.γ id' = some (b, sz') → False := by
      intro id id' o o' b sz sz' hid ho hown hg hid' ho' hown' hg'
      have hlt : b < c.w.heap.size := hr.ownLt ⟨id', o', sz', ho', hown', hg'⟩
      rcases hext.onew b ⟨id, o, sz, ho, hown, hg⟩ with h | h
      · exact absurd hlt (Nat.not_lt.2 h)
      · exact apart id' o' b sz' hid' ho' hown' hg' h
    intro id id' o o' b sz sz' ho ho' h1 h2 hg hg'
    rcases newAt id o ho with ⟨hid, k1⟩ | ⟨hid, k1⟩ <;> rcases newAt id' o' ho' with ⟨hid', k2⟩ | ⟨hid', k2⟩
    · exact hr'.inj id id' o o' b sz sz' k1 k2 h1 h2 ((g2a id hid).symm.trans hg) ((g2a id' hid').symm.trans hg')
    · exact (mix id id' o o' b sz sz' hid k1 h1 ((g2a id hid).symm.trans hg) hid' k2 h2 ((g2b id' hid').symm.trans hg')).elim
    · exact (mix id' id o' o b sz' sz hid' k2 h2 ((g2a id' hid').symm.trans hg') hid k1 h1 ((g2b id hid).symm.trans hg)).elim
    · exact hr.inj id id' o o' b sz sz' k1 k2 h1 h2 ((g2b id hid).symm.trans hg) ((g2b id' hid').symm.trans hg')

/-- A call that works on the first objects of the heap. -/
theorem call_frame {X : Env} {M : Md} {o : Oper} {g : FuncId} {caps args as' : List AV} {K : AS → Prop} {s : AS} {r : AV} {H1 H1' rest : List AO} (hb : M.hcall = true) (h : HCall X.P g as' H1 r H1') (hs : s.h = H1 ++ rest) (hlen : H1'.length = H1.length)
    (hbel : ∀ a ∈ as', Bel H1.length a) (hO : ∀ o ∈ H1, belO H1.length o) (hborn : ∀ o ∈ H1, o ≠ .unborn) (hborn' : ∀ o ∈ H1', o ≠ .unborn) (hcon : ConEq H1 H1') (ha : WeakL (args ++ caps) as')
    (hK : K (({ s with h := H1' ++ rest } : AS).putO o.dst r)) : CallL X M o (.fn g caps) args K s := by
  have hdrop : s.h.drop H1.length = rest := by rw [hs]; simp
  have hat : ∀ id : Nat, s.h[id]? = some .unborn → ¬ id < H1.length := fun id hid hlt => by
    rw [hs, List.getElem?_append_left hlt] at hid
    exact hborn _ (List.mem_of_getElem? hid) rfl
  have hfirst : ∀ h2, Over s.h h2 → h2 = H1 ++ h2.drop H1.length := by
    intro h2 ho
    have : h2.take H1.length = H1 := by
      apply List.ext_getElem?
      intro i
      rw [List.getElem?_take]
      by_cases hi : i < H1.length
      · rw [if_pos hi, ho i (by rw [hs, List.getElem?_append_left hi]; intro e; exact hborn _ (List.mem_of_getElem? e) rfl), hs, List.getElem?_append_left hi]
      · rw [if_neg hi, List.getElem?_eq_none (by omega)]
    conv => lhs; rw [← List.take_append_drop H1.length h2, this]
  refine ⟨r, H1' ++ rest, ⟨g, caps, rfl, .inr (.inr ⟨hb, as', ha, fun h2 => H1' ++ h2.drop H1.length, fun h2 ho => ?_, by show H1' ++ s.h.drop H1.length = _; rw [hdrop], ?_, ?_, ?_⟩)⟩, hK⟩
  · have := h.frame hlen hbel hO (h2.drop H1.length)
    rwa [← hfirst h2 ho] at this
  · intro id v n f
    rw [hs]
    by_cases hi : id < H1.length
    · rw [List.getElem?_append_left hi, List.getElem?_append_left (by omega)]; exact hcon id v n f
    · rw [List.getElem?_append_right (by omega), List.getElem?_append_right (by omega), hlen]
  · intro h2 id ob ho hid
    have hge := hat id hid
    show H1' ++ (h2.set id ob).drop H1.length = (H1' ++ h2.drop H1.length).set id ob
    rw [List.set_append_right _ _ (by omega), hlen, List.drop_set, if_neg (by omega)]
  · intro id hid
    have hge := hat id hid
    rw [hs] at hid
    rw [List.getElem?_append_right (by omega)] at hid ⊢
    rw [hlen]; exact hid

/-! ### Contracts whose own objects are dropped at the end -/
def envC (P : Program) (fn : Func) (str hcs : List Nat) (m : Nat) (r : AV) (H' : List AO) : Env := ⟨P, fn, str, hcs, m, fun v H => v = r ∧ H.take m = H'⟩
theorem HCall.introC {P : Program} {f : FuncId} {fn : Func} {body : Code} (he : Enters P f) (hf : P.funcs[f]? = some fn) (hb : fn.body = some body) (hm : P.follows .mixedOrders = true) {args : List AV} {H H' : List AO} {r : AV}
    (n0 : Nat) (hid str hcs : List Nat) (hok : okCode fn.ntmps str hcs body = true) (hlen : args.length ≤ fn.ntmps) (hr : Bel H.length r) (hO : ∀ o ∈ H', belO H.length o)
    (h : Run (envC P fn str hcs H.length r H') [.code body] (AS.start n0 hid args H)) : HCall P f args H r H' := by
  refine ⟨he, ?_⟩
  rintro c vs rfl hrc hv
  refine calls_of_run (X := envC P fn str hcs c.H.length r H') hf hb hm hok hrc hv hlen h ?_
  rintro v r' ⟨w', S', γ', H''⟩ h1 h2 h3 ⟨rfl, rfl⟩
  have hst : St 1 ⟨w', S', γ', H''⟩ { tmps := #[v], defers := [] } ⟨0, [], [], [(0, r')], H''⟩ := by
    refine ⟨rfl, rfl, fun i => ?_, rfl, h2⟩
    unfold AS.get
    simp only [Nat.not_lt_zero, if_false, look]
    split
    · rename_i hi; subst hi; exact h1
    · exact .any _
  obtain ⟨c', hw, hx, hst'⟩ := sub_cut (b := c.H.length) (m := c.H.length) (s := ⟨0, [], [], [(0, r')], H''⟩) (s' := ⟨0, [], [], [(0, r')], H''.take c.H.length⟩) (Nat.le_refl _) rfl trivial ⟨.inr rfl, trivial⟩ rfl (by simp) (by simp; exact hr) hO _ _ _ hst
  have hv' := hst'.slots 0
  have hH := hst'.heap
  have hrel := hst'.hrel
  obtain ⟨w2, S2, γ2, H2⟩ := c'
  cases hw
  cases hH
  refine ⟨v, S2, γ2, rfl, by simpa [AS.get, look] using hv', hrel, ?_⟩
  exact (h3.trans hx).toExt (Nat.le_refl _)

/-! ### What is held, told by less, in this heap -/
def WeakIn (H : List AO) (a b : AV) : Prop := ∀ (c : Ctx) (v : Value), c.H = H → HRel c → Rep c v a → Rep c v b
theorem weakIn_rfl (H : List AO) (a : AV) : WeakIn H a a := fun _ _ _ _ h => h
theorem weakIn_con {H : List AO} {id ver k : Nat} {f g : Nat → AV} (ho : H[id]? = some (.con ver k f)) (hk : 0 < k) (hg : ∀ j, j < k → WeakIn H (f j) (g j)) : WeakIn H (.ref id ver 0) (.ptr k g 0) := by
  rintro c v rfl hr h
  have hinf : inf c.H id = some ver := by simp [inf, ho, AO.info]
  cases h with
  | ref _ _ _ b sz hi hgm =>
    rcases hr.con id ver k f ho with ⟨h1, h2⟩ | ⟨b', sz', cs, el, fr, h1, h2, h3, h4, h5, h6⟩
    · omega
    · rw [h1] at hgm; cases hgm
      have := Rep.ptr (c := c) b 0 k 0 g (fun j => cs.getD j undef) h5 (fun j hj => cells_of_row h2 (by omega) j hj) (fun j hj => hg j hj c _ rfl hr (h6 j hj))
      rwa [Nat.zero_add] at this
  | refOld _ _ _ a hs =>
    exfalso
    rcases hs with ⟨v', hi, hlt⟩ | hd
    · rw [hinf] at hi; cases hi; omega
    · simp [inf, hd, AO.info] at hinf
theorem weakIn_agg {H : List AO} {l m : List AV} (hl : l.length = m.length) (h : ∀ j, j < l.length → WeakIn H (l.getD j .any) (m.getD j .any)) : WeakIn H (.agg l) (.agg m) := by
  intro c v hH hr hv
  cases hv with
  | agg vs _ hs hrr => exact .agg vs m (hs.trans hl) fun j hj => h j (by omega) c _ hH hr (hrr j (by omega))

/-- What an object holds, told by less. -/
theorem sub_roww {m : Nat} {s : AS} (id : Nat) {ver n : Nat} {f : Nat → AV} (g : Nat → AV) (ho : s.h[id]? = some (.row ver n f)) (hfg : ∀ j, j < n → WeakIn s.h (f j) (g j)) : Sub m s { s with h := s.h.set id (.row ver n g) } := by
  intro N c a hst
  have hH := hst.heap
  rw [← hH] at ho hfg
  have hlt := (List.getElem?_eq_some_iff.1 ho).1
  have hat : (c.H.set id (.row ver n g))[id]? = some (.row ver n g) := by simp [hlt]
  have hoth : ∀ i, i ≠ id → (c.H.set id (AO.row ver n g))[i]? = c.H[i]? := fun i hi => List.getElem?_set_ne (Ne.symm hi)
  let c' : Ctx := ⟨c.w, c.S, c.γ, c.H.set id (.row ver n g)⟩
  have hinf : ∀ i, inf c'.H i = inf c.H i := fun i => by
    by_cases hi : i = id
    · subst hi; simp [inf, c', hat, ho, AO.info]
    · simp [inf, c', hoth i hi]
  have hdead : ∀ i : Nat, c'.H[i]? = some AO.dead ↔ c.H[i]? = some AO.dead := fun i => by
    by_cases hi : i = id
    · subst hi; simp [c', hat, ho]
    · simp [c', hoth i hi]
  have hmap : ∀ (i : Nat) k q, c.H[i]? = some (AO.map k q) ↔ c'.H[i]? = some (AO.map k q) := fun i k q => by
    by_cases hi : i = id
    · subst hi; simp [c', hat, ho]
    · simp [c', hoth i hi]
  have hrep : ∀ {v a}, Rep c v a → Rep c' v a := fun hv => rep_heap (c := c) (c' := c') rfl rfl rfl hinf hdead (fun i k q => (hmap i k q).1) hv
  have howns : ∀ b, owns c' b → owns c b := by
    rintro b ⟨i, o, sz, hoi, hown, hg⟩
    by_cases hi : i = id
    · subst hi; exact ⟨i, _, sz, ho, rfl, hg⟩
    · exact ⟨i, o, sz, by rw [← hoth i hi]; exact hoi, hown, hg⟩
  have hext : Ext c c' := by
    refine ⟨?_, fun b h => h, fun b h => .inl h, fun b h => .inr (howns b h), fun _ _ _ => rfl, Nat.le_refl _, rfl, rfl, rfl⟩
    intro i o hoi
    have key : ∀ v, inf c.H i = some v → (c'.H[i]? = some .dead ∨ ∃ v', Ab.inf c'.H i = some v' ∧ (v < v' ∨ (v' = v ∧ c'.γ i = c.γ i))) :=
      fun v hv => .inr ⟨v, by rw [hinf]; exact hv, .inr ⟨rfl, rfl⟩⟩
    cases o with
    | unborn => trivial
    | dead => exact (hdead i).2 hoi
    | row v _ _ => exact key v (by simp [inf, hoi, AO.info])
    | con v _ _ => exact key v (by simp [inf, hoi, AO.info])
    | map k q => exact .inr ⟨⟨k, q, (hmap i k q).1 hoi⟩, rfl⟩
  refine ⟨c', rfl, hext.toB m, hst.size, hst.defers, fun i => hrep (hst.slots i), by simp [c', hH], ?_⟩
  refine ⟨?_, ?_, ?_, ?_, hst.hrel.bound⟩
  · intro i v k q hoi
    by_cases hi : i = id
    · subst hi
      simp only [c'] at hoi
      rw [hat] at hoi; cases hoi
      rcases hst.hrel.row i ver n f ho with h | ⟨b, sz, cs, el, h1, h2, h3, h4, h5, h6⟩
      · exact .inl h
      · exact .inr ⟨b, sz, cs, el, h1, h2, h3, h4, h5, fun j hj => hrep (hfg j hj c _ rfl hst.hrel (h6 j hj))⟩
    · simp only [c'] at hoi
      rw [hoth i hi] at hoi
      rcases hst.hrel.row i v k q hoi with h | ⟨b, sz, cs, el, h1, h2, h3, h4, h5, h6⟩
      · exact .inl h
      · exact .inr ⟨b, sz, cs, el, h1, h2, h3, h4, h5, fun j hj => hrep (h6 j hj)⟩
  · intro i v k q hoi
    by_cases hi : i = id
    · subst hi; simp only [c'] at hoi; rw [hat] at hoi; cases hoi
    · simp only [c'] at hoi
      rw [hoth i hi] at hoi
      rcases hst.hrel.con i v k q hoi with h | ⟨b, sz, cs, el, fr, h1, h2, h3, h4, h5, h6⟩
      · exact .inl h
      · exact .inr ⟨b, sz, cs, el, fr, h1, h2, h3, h4, h5, fun j hj => hrep (h6 j hj)⟩
  · intro i k q hoi
    obtain ⟨b, sz, es, cl, h1, h2, h3, h4⟩ := hst.hrel.map i k q ((hmap i k q).2 hoi)
    exact ⟨b, sz, es, cl, h1, h2, h3, h4.ext fun v a hv => hrep hv⟩
  · intro i i' o o' b sz sz' hoi hoi' h1 h2 hg hg'
    have key : ∀ (i : Nat) o, c'.H[i]? = some o → o.owned = true → ∃ o2 : AO, c.H[i]? = some o2 ∧ o2.owned = true := by
      intro i o hoi h
      by_cases hi : i = id
      · subst hi; exact ⟨_, ho, rfl⟩
      · exact ⟨o, by rw [← hoth i hi]; exact hoi, h⟩
    obtain ⟨o2, k1, k2⟩ := key i o hoi h1
    obtain ⟨o3, k3, k4⟩ := key i' o' hoi' h2
    exact hst.hrel.inj _ _ _ _ _ _ _ k1 k3 k2 k4 hg hg'

theorem retCell {P : Program} {fn : Func} {str hcs : List Nat} {m : Nat} {r v : AV} {H : List AO} {s : AS} {t u : Nat} (hr : fn.results = #[.cell t u]) (h : aload P false u (s.get t) s.h = some v) (e : v = r) (hH : s.h.take m = H) : RetOk (envC P fn str hcs m r H) s :=
  ⟨v, by simp [resV, envC, hr, resList, resAt, packR, h], e, hH⟩
section
variable (P : Program) (fn : Func) (str hcs : List Nat) (b : Nat) (r : AV) (H' : List AO)
theorem envC_P : (envC P fn str hcs b r H').P = P := nrfl rfl
theorem envC_fn : (envC P fn str hcs b r H').fn = fn := nrfl rfl
theorem envC_str : (envC P fn str hcs b r H').str = str := nrfl rfl
theorem envC_hcs : (envC P fn str hcs b r H').hcs = hcs := nrfl rfl
theorem envC_base : (envC P fn str hcs b r H').base = b := rfl
end
end
end Go.Ab

namespace Go.Ab
open Go Go.RowKit
noncomputable section
set_option linter.defProp false
def wPre := And.intro @vc_seq (And.intro @vc_skip (And.intro @vc_label (And.intro @vc_block (And.intro @vc_scope (And.intro @vc_inBlock (And.intro @vc_inScope (And.intro @Nvc_zero (And.intro @Nvc_ret (And.intro @Nvc_nil (And.intro @Nvc_loop (And.intro @Nvc_inLoop (And.intro @vc_exitC (And.intro @vc_condC (And.intro @Nvc_region (And.intro @Nvc_draw (And.intro @vcOps_nil (And.intro @vcOps_consL (And.intro @NvcOps_gdT (And.intro @NvcOps_gdF (And.intro @vcOps_nextN (And.intro @vcOps_nextS (And.intro @NvcOp_call (And.intro @Nop_pick (And.intro @Nop_extract (And.intro @Nop_move (And.intro @Nop_assign (And.intro @Nop_load (And.intro @Nop_bin (And.intro @Nop_un (And.intro @Nop_conv (And.intro @Nop_indexAddr (And.intro @Nop_index (And.intro @Nop_fieldAddr (And.intro @Nop_field (And.intro @Nop_build (And.intro @Nop_buildSlice (And.intro @Nop_store (And.intro @Nop_mapUpdate (And.intro @Nop_insert (And.intro @Nop_lookup (And.intro @Nop_nilCheck (And.intro @Nop_slice (And.intro @Nop_slice3 (And.intro @Nop_makeFunc (And.intro @Nop_len (And.intro @Nop_min (And.intro @Nop_max (And.intro @Nop_append (And.intro @Nop_appendZ (And.intro @Nop_cap (And.intro @Nop_alloc (And.intro @Nop_box (And.intro @Nop_make (And.intro @Nop_makeMap (And.intro @Nop_allocS (And.intro @Nop_boxS (And.intro @Nop_makeS (And.intro @Nop_makeMapS (And.intro @obind_some (And.intro @obind_oif (And.intro @guardP_true (And.intro @guardP_false (And.intro @guardP_dec (And.intro @guardP_ndec (And.intro @cAt_bool (And.intro @gAt_bool (And.intro @gAt_undef (And.intro @gAt_tup (And.intro @dAt_some (And.intro @pAt_true (And.intro @pAt_false (And.intro @xAt_zero (And.intro @xAt_succ (And.intro @eAt_some (@normS_ok)))))))))))))))))))))))))))))))))))))))))))))))))))))))))))))))))))))))))))
def wPost := And.intro @obind_some (And.intro @obind_oif (And.intro @guardP_true (And.intro @guardP_false (And.intro @guardP_dec (And.intro @guardP_ndec (And.intro @cAt_bool (And.intro @gAt_bool (And.intro @gAt_undef (And.intro @gAt_tup (And.intro @dAt_some (And.intro @pAt_true (And.intro @pAt_false (And.intro @xAt_zero (And.intro @xAt_succ (And.intro @eAt_some (And.intro @normS_ok (And.intro @obind_none (And.intro @mkS_lit (And.intro @dstAt_zero (And.intro @dstAt_succ (And.intro @exitTo_in (And.intro @exitTo_code (And.intro @exitTo_loop (And.intro @exitTo_scope (And.intro @ev_tmp (And.intro @ev_const (And.intro @ev_func (And.intro @get_lit (And.intro @putO_some (And.intro @putO_none (And.intro @fix_lit (And.intro @clr_nil (And.intro @clr_hid (And.intro @drawS_lit (And.intro @cst_int (And.intro @cst_bool (And.intro @cst_str (And.intro @cst_nil (And.intro @cst_sl (And.intro @cst_map (And.intro @cst_fn (And.intro @envP_P (And.intro @envP_fn (And.intro @envP_str (And.intro @envP_hcs (And.intro @envH_P (And.intro @envH_fn (And.intro @envH_str (And.intro @envH_hcs (And.intro @envC_P (And.intro @envC_fn (And.intro @envC_str (And.intro @envC_hcs (And.intro @abin_shl (And.intro @abin_shr (And.intro @abin_add (And.intro @abin_sub (And.intro @abin_mul (And.intro @abin_quo (And.intro @abin_rem (And.intro @abin_and (And.intro @abin_or (And.intro @abin_xor (And.intro @abin_andNot (And.intro @abin_eql (And.intro @abin_neq (And.intro @abin_lss (And.intro @abin_leq (And.intro @abin_gtr (And.intro @abin_geq (And.intro @abin_beql (And.intro @abin_bneq (And.intro @abin_nn (And.intro @abin_nnn (And.intro @abin_pn (And.intro @abin_pnn (And.intro @abin_rn (And.intro @abin_rnn (And.intro @aun_not (And.intro @aun_neg (And.intro @aun_xor (And.intro @amin_int (And.intro @amax_int (And.intro @one_int (And.intro @one_bool (And.intro @one_str (And.intro @one_nil (And.intro @one_ptr (And.intro @one_sl (And.intro @one_ref (And.intro @one_osl (And.intro @one_mp (And.intro @one_nilmap (And.intro @one_fn (And.intro @one_nilfn (And.intro @one_nilif (And.intro @one_iface (And.intro @one_any (And.intro @cells_agg (And.intro @cells_int (And.intro @loose_int (And.intro @cells_bool (And.intro @loose_bool (And.intro @cells_str (And.intro @loose_str (And.intro @cells_nil (And.intro @loose_nil (And.intro @cells_ptr (And.intro @loose_ptr (And.intro @cells_sl (And.intro @loose_sl (And.intro @cells_ref (And.intro @loose_ref (And.intro @cells_osl (And.intro @loose_osl (And.intro @cells_mp (And.intro @loose_mp (And.intro @cells_nilmap (And.intro @loose_nilmap (And.intro @cells_fn (And.intro @loose_fn (And.intro @cells_nilfn (And.intro @loose_nilfn (And.intro @cells_nilif (And.intro @loose_nilif (And.intro @cells_iface (And.intro @loose_iface (And.intro @loose_agg (And.intro @loose_tup (And.intro @oif_true (And.intro @oif_false (And.intro @obind_map (And.intro @zfun_one (And.intro @upd_ofL (And.intro @one_getD1 (And.intro @ofL_at (And.intro @I_def (And.intro @slF_at (And.intro @one_ofL1 (And.intro @one_slI (And.intro @one_slInts (And.intro @appF_I (@appF_Is)))))))))))))))))))))))))))))))))))))))))))))))))))))))))))))))))))))))))))))))))))))))))))))))))))))))))))))))))))))))))))))))))))))))))))))))
end
end Go.Ab

namespace Go.Ab
open Go Go.RowKit Go.ChangeShapes Go.WideShapes Go.ChangeAt
noncomputable section
variable {H : Type} {enc : TypeId × Value → H} {P : Program}

theorem below_of_ext {W w' : World} {S S' : Nat → Prop} (hx : Ext (.bare W S) (.bare w' S')) : Below W.heap.size W w' :=
  ⟨hx.os, hx.tape, hx.output, hx.size, fun _ hk => hx.same _ hk owns_bare⟩

/-- All that is there is settled. -/
def allOf (W : World) : Nat → Prop := fun b => b < W.heap.size
theorem calls_true {f : FuncId} {as : List AV} (h : PureCall P f as (.bool true)) {W : World} {vs : Array Value} (hv : RepL (.bare W (allOf W)) vs as) : Calls P f vs W fun e W' => e = .returned (.bool true) ∧ Below W.heap.size W W' := by
  refine (h.2 W (allOf W) vs (fun _ h => h) hv).mono ?_
  rintro e w' ⟨v, S', rfl, hr, _, hx⟩
  cases hr
  exact ⟨rfl, below_of_ext hx⟩

theorem i64_of_wf {n : Int} (h : (Lit.int .i64 n).wf = true) : -9223372036854775808 ≤ n ∧ n < 9223372036854775808 := by
  have : IntKind.i64.min ≤ n ∧ n ≤ IntKind.i64.max := by simpa [Lit.wf] using h
  have e1 : IntKind.i64.min = -9223372036854775808 := by decide
  have e2 : IntKind.i64.max = 9223372036854775807 := by decide
  omega

/-- An argument that is a list of integers, as the layer sees it. -/
theorem open_intsR {t e : TypeId} {r : Reach} {b0 : Nat} {base : Nat} {sp : Nat → Bool} {held : Bool} {W : World} {v : Value} {d : DataW H} {ps : List MemPlace} (ht : P.underlying t = some (.slice e)) (he : P.underlying e = some (.int .i64)) (hc : P.cellsOf e = 1)
    (hval : Value.okWide P W r b0 t v) (h : DataW.Trod enc P W base sp held t v d ps) :
    ∃ l : List Int, (∀ x ∈ l, -9223372036854775808 ≤ x ∧ x < 9223372036854775808) ∧ l.length ≤ maxLen ∧ Rep (.bare W (allOf W)) v (.sl l.length l.length (slF I 0 l) false) := by
  obtain ⟨a0, len, cap, rfl⟩ := okWide_slice ht hval
  obtain ⟨fuel, hf⟩ := h
  rcases open_ints ht he hc hf with ⟨hcs, hx⟩ | ⟨a, len', cap', zs, hcs, _, hl, hm, hz, hx, hcell, hwz⟩
  · simp [Value.cells] at hcs
    obtain ⟨rfl, rfl, rfl⟩ := hcs
    exact ⟨[], by simp, by simp, .slz _ _ _ _ (by simp)⟩
  · simp [Value.cells] at hcs
    obtain ⟨rfl, rfl, rfl⟩ := hcs
    have hlen : len ≤ zs.length := by rw [hz]; split <;> omega
    refine ⟨zs.take len, fun x hx => i64_of_wf (hwz x (List.mem_of_mem_take hx)), by rw [List.length_take]; exact Nat.le_trans (Nat.min_le_left _ _) (Nat.le_trans hl hm), ?_⟩
    rw [List.length_take, Nat.min_eq_left hlen]
    rcases Nat.eq_zero_or_pos len with h0 | h0
    · subst h0; exact .slz _ _ _ _ (by simp)
    · have c0 := hcell 0 (by omega)
      have hsp : a.spot = none := by
        unfold World.cell? at c0
        split at c0
        · cases hs : a.spot with
          | none => rfl
          | some s => simp [Addr.add, hs] at c0
        · cases c0
      obtain ⟨ab, ao, as⟩ := a
      simp only at hsp
      subst hsp
      have hb : ab < W.heap.size := by
        unfold World.cell? at c0
        split at c0
        · rename_i h; exact (Array.getElem?_eq_some_iff.1 h).1
        · cases c0
      refine .sl ab ao len len cap _ false (fun j => .int .i64 (zs.getD j 0)) hb (fun j hj => ?_) (fun j hj => ?_) hl (by simp)
      · have := hcell j (by omega)
        rwa [Addr.add_lit] at this
      · have : (zs.take len).getD j 0 = zs.getD j 0 := by simp [List.getD_eq_getElem?_getD, hj]
        rw [slF_at, this]
        exact .int _ _

/-- The arguments read as they did. -/
theorem trodAll_stays (hl : laidOutB P = true) {W W' : World} {sp' : Nat → Bool} (hb : Below W.heap.size W W') : ∀ {ts : List TypeId} {vs : List Value} {ds : List (DataW H)} {p : List MemPlace}, (∀ t ∈ ts, P.readableRec t = true ∧ t < P.types.size) →
    DataW.TrodAll enc P W 0 (fun _ => true) true ts vs ds p → (∀ x ∈ p, x.block < W.heap.size) → (∀ x ∈ p, sp' x.block = true) → DataW.TrodAll enc P W' 0 sp' true ts vs ds p
  | [], _, _, _, _, h, _, _ => by
    obtain ⟨rfl, rfl, rfl⟩ := trodAll_nil h
    exact trodAll_mk0
  | t :: ts, _, _, _, ht, h, hlt, hsp => by
    obtain ⟨v, vs1, d, ds1, a, b, rfl, rfl, rfl, h1, h2⟩ := trodAll_cons h
    obtain ⟨r1, r2⟩ := ht t (by simp)
    exact trodAll_cons_mk (WideElems.Trod_stays hl r1 r2 h1 (fun x hx => hb.same (hlt x (by simp [hx]))) (fun x hx => hsp x (by simp [hx])))
      (trodAll_stays hl hb (fun t' ht' => ht t' (by simp [ht'])) h2 (fun x hx => hlt x (by simp [hx])) (fun x hx => hsp x (by simp [hx])))

theorem post_true {f : Func} {s : ChangeSpec} {apart fresh handsOn again : Bool} {W W' : World} {args : Array Value} {ds : List (DataW H)} {p : List MemPlace} {tb : TypeId} (hl : laidOutB P = true)
    (hW : DataW.Whole enc P f.params.toList s.vars apart W args.toList ds [] p) (hA : DataW.TrodAll enc P W 0 (fun _ => true) true f.params.toList args.toList ds p) (hv : s.vars = [])
    (hts : ∀ t ∈ f.params.toList, P.readableRec t = true ∧ t < P.types.size) (hres : f.resultTypes = #[tb]) (hb : P.underlying tb = some .bool)
    (hfn : s.fn H (ds ++ []) = { results := [.lit (.bool true)], args := ds }) (hbel : Below W.heap.size W W') : s.post enc P f apart fresh handsOn again W args (.bool true) W' := by
  have hlt : ∀ x ∈ p, x.block < W.heap.size := fun x hx => by simpa using hW.lt x hx
  have hargs : ∀ sp : Nat → Bool, (∀ q ∈ p, sp q.block = true) → DataW.TrodAll enc P W' 0 sp true f.params.toList args.toList (s.fn H (ds ++ [])).args p := fun sp hsp => by
    rw [hfn]; exact trodAll_stays hl hbel hts hA hlt hsp
  have hvars : ∀ sp : Nat → Bool, DataW.TrodVars enc P W' sp s.vars (s.fn H (ds ++ [])).vars [] := fun sp => by
    rw [hfn, hv]; rfl
  have hr : ∀ (b : Nat) (sp : Nat → Bool) (hd : Bool), DataW.TrodAll enc P W' b sp hd f.resultTypes.toList ((Value.bool true).resultList f.resultTypes.size) (s.fn H (ds ++ [])).results [] := fun b sp hd => by
    rw [hfn, hres]; exact trodAll_cons_mk (shut_bool hb _) trodAll_mk0
  have hold : ∀ q ∈ p, (fun b => decide (b < W.heap.size)) q.block = true := fun q hq => by simpa using hlt q hq
  refine ⟨ds, [], p, [], p, [], hW, hr _ _ _, hargs _ hold, hvars _, World.keptBut_mono (fun q hq => ⟨hq, .inr (.inl hq)⟩) (hbel.frame _), fun _ => ?_⟩
  obtain ⟨_, _, _, _, _, hz, hn⟩ := hW
  refine ⟨ok_one (by rw [hres]) rfl (okWide_bool_mk hb _), _, _, ([] ++ p) ++ [], ⟨[] ++ p, [], trodAll_append (hargs _ (fun _ _ => rfl)) (hr _ _ _), hvars _, rfl, ?_, ?_⟩, ?_⟩
  · intro b off hp
    have hp' : MemPlace.cell b off ∈ p := by simpa using hp
    rw [hbel.frozen (p := ⟨b, off, none⟩) (hlt _ hp')]
    exact hz b off hp'
  · intro ha
    simpa using hn ha
  · intro q hq _
    simpa using hq
end
end Go.Ab

