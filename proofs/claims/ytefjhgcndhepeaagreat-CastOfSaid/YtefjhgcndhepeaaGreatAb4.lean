/- A layer of abstract values and heaps over the model; what is proved here is that its steps and contracts are sound, for every program. -/
import Derived.Test.YtefjhgcndhepeaaGreatAb3
import Derived.WalkKit
import Derived.ProofKit
import Derived.OpenShut
import Derived.JoinedCond
import Derived.Carry
set_option linter.unusedSimpArgs false
set_option linter.unusedVariables false
namespace Go.Ab
open Go Go.RowKit
noncomputable section

/-- The objects from the m-th on are forgotten: the rest is a heap. -/
theorem hrel_take {c : Ctx} (hr : HRel c) (m : Nat) (hO : ∀ o ∈ c.H.take m, belO m o) : HRel ⟨c.w, c.S, c.γ, c.H.take m⟩ := by
  have hget : ∀ (i : Nat) (o : AO), (c.H.take m)[i]? = some o → c.H[i]? = some o ∧ i < m := by
    intro i o ho
    rw [List.getElem?_take] at ho
    split at ho
    · exact ⟨ho, by assumption⟩
    · cases ho
  have hmem : ∀ (i : Nat) (o : AO), (c.H.take m)[i]? = some o → belO m o := fun i o ho => hO o (List.mem_of_getElem? ho)
  refine ⟨?_, ?_, ?_, ?_, hr.bound⟩
  · intro id v n f ho
    have hb := hmem _ _ ho
    rcases hr.row id v n f (hget _ _ ho).1 with h | ⟨b, sz, cs, el, g1, g2, g3, g4, g5, g6⟩
    · exact .inl h
    · exact .inr ⟨b, sz, cs, el, g1, g2, g3, g4, g5, fun j hj => hb j hj c _ (g6 j hj)⟩
  · intro id v n f ho
    have hb := hmem _ _ ho
    rcases hr.con id v n f (hget _ _ ho).1 with h | ⟨b, sz, cs, el, fr, g1, g2, g3, g4, g5, g6⟩
    · exact .inl h
    · exact .inr ⟨b, sz, cs, el, fr, g1, g2, g3, g4, g5, fun j hj => hb j hj c _ (g6 j hj)⟩
  · intro id k g ho
    have hb := hmem _ _ ho
    obtain ⟨b, sz, es, cl, g1, g2, g3, g4⟩ := hr.map id k g (hget _ _ ho).1
    exact ⟨b, sz, es, cl, g1, g2, g3, g4.keys, g4.uniq, fun n a hn => let ⟨e, he, hk, hr⟩ := g4.hit n a hn; ⟨e, he, hk, hb n a hn c _ hr⟩, g4.miss⟩
  · intro i i' o o' b sz sz' ho ho' g1 g2 hg hg'
    exact hr.inj _ _ _ _ _ _ _ (hget _ _ ho).1 (hget _ _ ho').1 g1 g2 hg hg'

theorem hle_more {w : World} {S : Nat → Prop} {γ γ' : Nat → Option (Nat × Nat)} {H rest : List AO} (hγ : ∀ id, id < H.length → γ' id = γ id) (w' : World) (S' : Nat → Prop) : HLe ⟨w, S, γ, H⟩ ⟨w', S', γ', H ++ rest⟩ := by
  intro id o ho
  have ho' : H[id]? = some o := ho
  have hlt := (List.getElem?_eq_some_iff.1 ho').1
  have h1 : (H ++ rest)[id]? = some o := by rw [List.getElem?_append_left hlt]; exact ho
  have hg := hγ id hlt
  cases o with
  | unborn => trivial
  | dead => exact h1
  | row v _ _ => exact .inr ⟨v, by simp [inf, h1, AO.info], .inr ⟨rfl, hg⟩⟩
  | con v _ _ => exact .inr ⟨v, by simp [inf, h1, AO.info], .inr ⟨rfl, hg⟩⟩
  | map k g => exact .inr ⟨⟨k, g, h1⟩, hg⟩

/-- THE FRAME: what works on the first objects leaves the others as they are. -/
theorem frame_core {c : Ctx} {H1 H1' rest : List AO} {v : AV} (hH : c.H = H1 ++ rest) (hr : HRel c) (hlen : H1'.length = H1.length) {w' : World} {S' : Nat → Prop} {γ' : Nat → Option (Nat × Nat)} {x : Value}
    (hx : Rep ⟨w', S', γ', H1'⟩ x v) (hr' : HRel ⟨w', S', γ', H1'⟩) (hext : Ext ⟨c.w, c.S, c.γ, H1⟩ ⟨w', S', γ', H1'⟩) : ∃ γ2, Rep ⟨w', S', γ2, H1' ++ rest⟩ x v ∧ HRel ⟨w', S', γ2, H1' ++ rest⟩ ∧ Ext c ⟨w', S', γ2, H1' ++ rest⟩ := by
  have old : ∀ (id : Nat) (o : AO), H1[id]? = some o → c.H[id]? = some o := fun id o ho => by
    rw [hH, List.getElem?_append_left (List.getElem?_eq_some_iff.1 ho).1]; exact ho
  have own1 : ∀ b, owns ⟨c.w, c.S, c.γ, H1⟩ b → owns c b := fun b ⟨id, o, sz, ho, hown, hg⟩ => ⟨id, o, sz, old id o ho, hown, hg⟩
  let γ2 : Nat → Option (Nat × Nat) := fun id => if id < H1.length then γ' id else c.γ id
  have g2a : ∀ id, id < H1.length → γ2 id = γ' id := fun id hid => if_pos hid
  have g2b : ∀ id, ¬ id < H1.length → γ2 id = c.γ id := fun id hid => if_neg hid
  have newAt : ∀ (id : Nat) (o : AO), (H1' ++ rest)[id]? = some o → (id < H1.length ∧ H1'[id]? = some o) ∨ (¬ id < H1.length ∧ c.H[id]? = some o) := by
    intro id o ho
    by_cases hid : id < H1.length
    · exact .inl ⟨hid, by rwa [List.getElem?_append_left (by omega)] at ho⟩
    · refine .inr ⟨hid, ?_⟩
      rw [List.getElem?_append_right (by omega), hlen] at ho
      rw [hH, List.getElem?_append_right (by omega)]; exact ho
  have lift : ∀ {u a}, Rep ⟨w', S', γ', H1'⟩ u a → Rep ⟨w', S', γ2, H1' ++ rest⟩ u a := fun hu =>
    hu.ext (fun _ h => h) (fun _ _ => rfl) (hle_more (fun id hid => g2a id (by rw [← hlen]; exact hid)) _ _)
  -- a block of an object that is not among the first
  have apart : ∀ (id : Nat) (o : AO) (b sz : Nat), ¬ id < H1.length → c.H[id]? = some o → o.owned = true → c.γ id = some (b, sz) → ¬ owns ⟨c.w, c.S, c.γ, H1⟩ b := by
    rintro id o b sz hid ho hown hg ⟨id', o', sz', ho', hown', hg'⟩
    have := hr.inj id id' o o' b sz sz' ho (old id' o' ho') hown hown' hg hg'
    have hlt := (List.getElem?_eq_some_iff.1 (show H1[id']? = some o' from ho')).1
    omega
  have hextC : Ext c ⟨w', S', γ2, H1' ++ rest⟩ := by
    refine ⟨?_, hext.smono, fun b hb => (hext.snew b hb).imp id (Or.imp id (own1 b)), ?_, fun b hlt hno => hext.same b hlt (fun ho => hno (own1 b ho)), hext.size, hext.os, hext.tape, hext.output⟩
    · intro id o ho
      by_cases hid : id < H1.length
      · have ho1 : H1[id]? = some o := by rw [hH, List.getElem?_append_left hid] at ho; exact ho
        have h1 := hext.hle id o ho1
        have hinf : inf (H1' ++ rest) id = inf H1' id := by unfold inf; rw [List.getElem?_append_left (by omega)]
        have hget : (H1' ++ rest)[id]? = H1'[id]? := List.getElem?_append_left (by omega)
        cases o with
        | unborn => trivial
        | dead => show (H1' ++ rest)[id]? = _; rw [hget]; exact h1
        | row v _ _ =>
          show (H1' ++ rest)[id]? = _ ∨ ∃ v', inf (H1' ++ rest) id = _ ∧ (_ ∨ (_ ∧ γ2 id = _))
          rw [hget, hinf, g2a id hid]; exact h1
        | con v _ _ =>
          show (H1' ++ rest)[id]? = _ ∨ ∃ v', inf (H1' ++ rest) id = _ ∧ (_ ∨ (_ ∧ γ2 id = _))
          rw [hget, hinf, g2a id hid]; exact h1
        | map k g =>
          show (H1' ++ rest)[id]? = _ ∨ ((∃ k g, (H1' ++ rest)[id]? = _) ∧ γ2 id = _)
          rw [hget, g2a id hid]; exact h1
      · have hget : (H1' ++ rest)[id]? = c.H[id]? := by rw [List.getElem?_append_right (by omega), hlen, hH, List.getElem?_append_right (by omega)]
        have hinf : inf (H1' ++ rest) id = inf c.H id := by unfold inf; rw [hget]
        have h1 := HLe.refl c id o ho
        cases o with
        | unborn => trivial
        | dead => show (H1' ++ rest)[id]? = _; rw [hget]; exact h1
        | row v _ _ =>
          show (H1' ++ rest)[id]? = _ ∨ ∃ v', inf (H1' ++ rest) id = _ ∧ (_ ∨ (_ ∧ γ2 id = _))
          rw [hget, hinf, g2b id hid]; exact h1
        | con v _ _ =>
          show (H1' ++ rest)[id]? = _ ∨ ∃ v', inf (H1' ++ rest) id = _ ∧ (_ ∨ (_ ∧ γ2 id = _))
          rw [hget, hinf, g2b id hid]; exact h1
        | map k g =>
          show (H1' ++ rest)[id]? = _ ∨ ((∃ k g, (H1' ++ rest)[id]? = _) ∧ γ2 id = _)
          rw [hget, g2b id hid]; exact h1
    · rintro b ⟨id, o, sz, ho, hown, hg⟩
      rcases newAt id o ho with ⟨hid, ho'⟩ | ⟨hid, ho'⟩
      · exact (hext.onew b ⟨id, o, sz, ho', hown, (g2a id hid).symm.trans hg⟩).imp (fun h => h) (own1 b)
      · exact .inr ⟨id, o, sz, ho', hown, (g2b id hid).symm.trans hg⟩
  have keep : ∀ (id : Nat) (o : AO) (b sz : Nat), ¬ id < H1.length → c.H[id]? = some o → o.owned = true → c.γ id = some (b, sz) → b < c.w.heap.size → ¬ c.S b → w'.heap[b]? = c.w.heap[b]? ∧ ¬ S' b := by
    intro id o b sz hid ho hown hg hlt hnS
    have hno := apart id o b sz hid ho hown hg
    refine ⟨hext.same b hlt hno, fun hs => ?_⟩
    rcases hext.snew b hs with h | h | h
    · exact hnS h
    · exact absurd hlt (Nat.not_lt.2 h)
    · exact hno h
  refine ⟨γ2, lift hx, ⟨?_, ?_, ?_, ?_, hr'.bound⟩, hextC⟩
  · intro id ver n g ho
    rcases newAt id _ ho with ⟨hid, ho'⟩ | ⟨hid, ho'⟩
    · rw [show (⟨w', S', γ2, H1' ++ rest⟩ : Ctx).γ id = γ' id from g2a id hid]
      rcases hr'.row id ver n g ho' with h | ⟨b, sz, cs, el, k1, k2, k3, k4, k5, k6⟩
      · exact .inl h
      · exact .inr ⟨b, sz, cs, el, k1, k2, k3, k4, k5, fun j hj => lift (k6 j hj)⟩
    · rw [show (⟨w', S', γ2, H1' ++ rest⟩ : Ctx).γ id = c.γ id from g2b id hid]
      rcases hr.row id ver n g ho' with h | ⟨b, sz, cs, el, k1, k2, k3, k4, k5, k6⟩
      · exact .inl h
      · obtain ⟨q1, q2⟩ := keep id _ b sz hid ho' rfl k1 (Array.getElem?_eq_some_iff.1 k2).1 k5
        exact .inr ⟨b, sz, cs, el, k1, q1.trans k2, k3, k4, q2, fun j hj => hextC.rep hr (k6 j hj)⟩
  · intro id ver n g ho
    rcases newAt id _ ho with ⟨hid, ho'⟩ | ⟨hid, ho'⟩
    · rw [show (⟨w', S', γ2, H1' ++ rest⟩ : Ctx).γ id = γ' id from g2a id hid]
      rcases hr'.con id ver n g ho' with h | ⟨b, sz, cs, el, fr, k1, k2, k3, k4, k5, k6⟩
      · exact .inl h
      · exact .inr ⟨b, sz, cs, el, fr, k1, k2, k3, k4, k5, fun j hj => lift (k6 j hj)⟩
    · rw [show (⟨w', S', γ2, H1' ++ rest⟩ : Ctx).γ id = c.γ id from g2b id hid]
      rcases hr.con id ver n g ho' with h | ⟨b, sz, cs, el, fr, k1, k2, k3, k4, k5, k6⟩
      · exact .inl h
      · have hno : ¬ owns ⟨c.w, c.S, c.γ, H1⟩ b := fun h => hr.notOwn k5 (own1 b h)
        exact .inr ⟨b, sz, cs, el, fr, k1, (hext.same b (hr.bound b k5) hno).trans k2, k3, k4, hext.smono b k5, fun j hj => hextC.rep hr (k6 j hj)⟩
  · intro id k g ho
    rcases newAt id _ ho with ⟨hid, ho'⟩ | ⟨hid, ho'⟩
    · rw [show (⟨w', S', γ2, H1' ++ rest⟩ : Ctx).γ id = γ' id from g2a id hid]
      obtain ⟨b, sz, es, cl, k1, k2, k3, k4⟩ := hr'.map id k g ho'
      exact ⟨b, sz, es, cl, k1, k2, k3, k4.ext fun v a hv => lift hv⟩
    · rw [show (⟨w', S', γ2, H1' ++ rest⟩ : Ctx).γ id = c.γ id from g2b id hid]
      obtain ⟨b, sz, es, cl, k1, k2, k3, k4⟩ := hr.map id k g ho'
      obtain ⟨q1, q2⟩ := keep id _ b sz hid ho' rfl k1 (Array.getElem?_eq_some_iff.1 k2).1 k3
      exact ⟨b, sz, es, cl, k1, q1.trans k2, q2, k4.ext fun v a hv => hextC.rep hr hv⟩
  · have mix : ∀ (id id' : Nat) (o o' : AO) (b sz sz' : Nat), id < H1.length → H1'[id]? = some o → o.owned = true → γ' id = some (b, sz) → ¬ id' < H1.length → c.H[id']? = some o' → o'.owned = true → c.γ id' = some (b, sz') → False := by
      intro id id' o o' b sz sz' hid ho hown hg hid' ho' hown' hg'
      have hlt : b < c.w.heap.size := hr.ownLt ⟨id', o', sz', ho', hown', hg'⟩
      rcases hext.onew b ⟨id, o, sz, ho, hown, hg⟩ with h | h
      · exact absurd hlt (Nat.not_lt.2 h)
      · exact apart id' o' b sz' hid' ho' hown' hg' h
    intro id id' o o' b sz sz' ho ho' h1 h2 hg hg'
    rcases newAt id o ho with ⟨hid, k1⟩ | ⟨hid, k1⟩ <;> rcases newAt id' o' ho' with ⟨hid', k2⟩ | ⟨hid', k2⟩
    · exact hr'.inj id id' o o' b sz sz' k1 k2 h1 h2 ((g2a id hid).symm.trans hg) ((g2a id' hid').symm.trans hg')
    · exact (mix id id' o o' b sz sz' hid k1 h1 ((g2a id hid).symm.trans hg) hid' k2 h2 ((g2b id' hid').symm.trans hg')).elim
    · exact (mix id' id o' o b sz' sz hid' k2 h2 ((g2a id' hid').symm.trans hg') hid k1 h1 ((g2b id hid).symm.trans hg)).elim
    · exact hr.inj id id' o o' b sz sz' k1 k2 h1 h2 ((g2b id hid).symm.trans hg) ((g2b id' hid').symm.trans hg')

theorem HCall.frame {P : Program} {f : FuncId} {args : List AV} {H1 H1' : List AO} {v : AV} (h : HCall P f args H1 v H1') (hlen : H1'.length = H1.length) (hb : ∀ a ∈ args, Bel H1.length a) (hO : ∀ o ∈ H1, belO H1.length o) (rest : List AO) :
    HCall P f args (H1 ++ rest) v (H1' ++ rest) := by
  refine ⟨h.1, fun c vs hH hr hv => ?_⟩
  have htake : c.H.take H1.length = H1 := by rw [hH]; simp
  have hr1 : HRel ⟨c.w, c.S, c.γ, H1⟩ := by
    have := hrel_take hr H1.length (by rw [htake]; exact hO)
    rwa [htake] at this
  have hv1 : RepL ⟨c.w, c.S, c.γ, H1⟩ vs args := ⟨hv.1, fun j hj => by
    have hmem : args.getD j .any ∈ args := by rw [List.getD_eq_getElem?_getD, List.getElem?_eq_getElem hj]; exact List.getElem_mem _
    have := hb _ hmem c _ (hv.2 j hj)
    rwa [htake] at this⟩
  refine (h.2 ⟨c.w, c.S, c.γ, H1⟩ vs rfl hr1 hv1).mono ?_
  rintro e w' ⟨x, S', γ', rfl, hx, hr', hext⟩
  obtain ⟨γ2, k1, k2, k3⟩ := frame_core hH hr hlen hx hr' hext
  exact ⟨x, S', γ2, rfl, k1, k2, k3⟩

/-- A call that works on the first objects of the heap. -/
theorem call_frame {X : Env} {M : Md} {o : Oper} {g : FuncId} {caps args as' : List AV} {K : AS → Prop} {s : AS} {r : AV} {H1 H1' rest : List AO} (hb : M.hcall = true) (h : HCall X.P g as' H1 r H1') (hs : s.h = H1 ++ rest) (hlen : H1'.length = H1.length)
    (hbel : ∀ a ∈ as', Bel H1.length a) (hO : ∀ o ∈ H1, belO H1.length o) (hborn : ∀ o ∈ H1, o ≠ .unborn) (hborn' : ∀ o ∈ H1', o ≠ .unborn) (hcon : ConEq H1 H1') (ha : WeakL (args ++ caps) as')
    (hK : K (({ s with h := H1' ++ rest } : AS).putO o.dst r)) : CallL X M o (.fn g caps) args K s := by
  have hdrop : s.h.drop H1.length = rest := by rw [hs]; simp
  have hat : ∀ id : Nat, s.h[id]? = some .unborn → ¬ id < H1.length := fun id hid hlt => by
    rw [hs, List.getElem?_append_left hlt] at hid
    exact hborn _ (List.mem_of_getElem? hid) rfl
  have hfirst : ∀ h2, Over s.h h2 → h2 = H1 ++ h2.drop H1.length := by
    intro h2 ho
    have : h2.take H1.length = H1 := by
      apply List.ext_getElem?
      intro i
      rw [List.getElem?_take]
      by_cases hi : i < H1.length
      · rw [if_pos hi, ho i (by rw [hs, List.getElem?_append_left hi]; intro e; exact hborn _ (List.mem_of_getElem? e) rfl), hs, List.getElem?_append_left hi]
      · rw [if_neg hi, List.getElem?_eq_none (by omega)]
    conv => lhs; rw [← List.take_append_drop H1.length h2, this]
  refine ⟨r, H1' ++ rest, ⟨.inl g, caps, rfl, .inr (.inr ⟨hb, as', ha, fun h2 => H1' ++ h2.drop H1.length, fun h2 ho => ?_, by show H1' ++ s.h.drop H1.length = _; rw [hdrop], ?_, ?_, ?_⟩)⟩, hK⟩
  · have := h.frame hlen hbel hO (h2.drop H1.length)
    rwa [← hfirst h2 ho] at this
  · intro id v n f
    rw [hs]
    by_cases hi : id < H1.length
    · rw [List.getElem?_append_left hi, List.getElem?_append_left (by omega)]; exact hcon id v n f
    · rw [List.getElem?_append_right (by omega), List.getElem?_append_right (by omega), hlen]
  · intro h2 id ob ho hid
    have hge := hat id hid
    show H1' ++ (h2.set id ob).drop H1.length = (H1' ++ h2.drop H1.length).set id ob
    rw [List.set_append_right _ _ (by omega), hlen, List.drop_set, if_neg (by omega)]
  · intro id hid
    have hge := hat id hid
    rw [hs] at hid
    rw [List.getElem?_append_right (by omega)] at hid ⊢
    rw [hlen]; exact hid

/-! ### Contracts whose own objects are dropped at the end -/
def envC (P : Program) (fn : Func) (str hcs : List Nat) (m : Nat) (r : AV) (H' : List AO) : Env := ⟨P, fn, str, hcs, m, none, [], fun v H => v = r ∧ H.take m = H'⟩
@[simp] theorem resX_C (P : Program) (fn : Func) (str hcs : List Nat) (m : Nat) (r : AV) (H : List AO) (s : AS) : resX (envC P fn str hcs m r H) s = resV P fn s := rfl
theorem HCall.introC {P : Program} {f : FuncId} {fn : Func} {body : Code} (he : Enters P f) (hf : P.funcs[f]? = some fn) (hb : fn.body = some body) (hm : P.follows .mixedOrders = true) {args : List AV} {H H' : List AO} {r : AV}
    (n0 : Nat) (hid str hcs : List Nat) (hok : okCode fn.ntmps str hcs body = true) (hlen : args.length ≤ fn.ntmps) (hr : Bel H.length r) (hO : ∀ o ∈ H', belO H.length o)
    (h : Run (envC P fn str hcs H.length r H') [.code body] (AS.start n0 hid args H)) : HCall P f args H r H' := by
  refine ⟨he, ?_⟩
  rintro c vs rfl hrc hv
  refine calls_of_run (X := envC P fn str hcs c.H.length r H') hf hb hm hok rfl hrc hv hlen h (fun p hp => absurd hp (List.not_mem_nil)) ?_
  rintro v r' ⟨w', S', γ', H''⟩ h1 h2 h3 ⟨rfl, rfl⟩
  have hst : St 1 ⟨w', S', γ', H''⟩ { tmps := #[v], defers := [] } ⟨0, [], [], [(0, r')], H''⟩ := by
    refine ⟨rfl, rfl, fun i => ?_, rfl, h2⟩
    unfold AS.get
    simp only [Nat.not_lt_zero, if_false, look]
    split
    · rename_i hi; subst hi; exact h1
    · exact .any _
  obtain ⟨c', hw, hx, hst'⟩ := sub_cut (b := c.H.length) (m := c.H.length) (s := ⟨0, [], [], [(0, r')], H''⟩) (s' := ⟨0, [], [], [(0, r')], H''.take c.H.length⟩) (Nat.le_refl _) rfl trivial ⟨.inr rfl, trivial⟩ rfl (by simp) (by simp; exact hr) hO _ _ _ hst
  have hv' := hst'.slots 0
  have hH := hst'.heap
  have hrel := hst'.hrel
  obtain ⟨w2, S2, γ2, H2⟩ := c'
  cases hw
  cases hH
  refine ⟨v, S2, γ2, rfl, by simpa [AS.get, look] using hv', hrel, ?_⟩
  exact (h3.trans hx).toExt (Nat.le_refl _)

/-! ### What is held, told by less, in this heap -/
def WeakIn (H : List AO) (a b : AV) : Prop := ∀ (c : Ctx) (v : Value), c.H = H → HRel c → Rep c v a → Rep c v b
theorem weakIn_rfl (H : List AO) (a : AV) : WeakIn H a a := fun _ _ _ _ h => h
theorem weakIn_con {H : List AO} {id ver k : Nat} {f g : Nat → AV} (ho : H[id]? = some (.con ver k f)) (hk : 0 < k) (hg : ∀ j, j < k → WeakIn H (f j) (g j)) : WeakIn H (.ref id ver 0) (.ptr k g 0) := by
  rintro c v rfl hr h
  have hinf : inf c.H id = some ver := by simp [inf, ho, AO.info]
  cases h with
  | ref _ _ _ b sz hi hgm =>
    rcases hr.con id ver k f ho with ⟨h1, h2⟩ | ⟨b', sz', cs, el, fr, h1, h2, h3, h4, h5, h6⟩
    · omega
    · rw [h1] at hgm; cases hgm
      have := Rep.ptr (c := c) b 0 k 0 g (fun j => cs.getD j undef) h5 (fun j hj => cells_of_row h2 (by omega) j hj) (fun j hj => hg j hj c _ rfl hr (h6 j hj))
      rwa [Nat.zero_add] at this
  | refOld _ _ _ a hs =>
    exfalso
    rcases hs with ⟨v', hi, hlt⟩ | hd
    · rw [hinf] at hi; cases hi; omega
    · simp [inf, hd, AO.info] at hinf
theorem weakIn_agg {H : List AO} {l m : List AV} (hl : l.length = m.length) (h : ∀ j, j < l.length → WeakIn H (l.getD j .any) (m.getD j .any)) : WeakIn H (.agg l) (.agg m) := by
  intro c v hH hr hv
  cases hv with
  | agg vs _ hs hrr => exact .agg vs m (hs.trans hl) fun j hj => h j (by omega) c _ hH hr (hrr j (by omega))

/-- What an object holds, told by less. -/
theorem sub_roww {m : Nat} {s : AS} (id : Nat) {ver n : Nat} {f : Nat → AV} (g : Nat → AV) (ho : s.h[id]? = some (.row ver n f)) (hfg : ∀ j, j < n → WeakIn s.h (f j) (g j)) : Sub m s { s with h := s.h.set id (.row ver n g) } := by
  intro N c a hst
  have hH := hst.heap
  rw [← hH] at ho hfg
  have hlt := (List.getElem?_eq_some_iff.1 ho).1
  have hat : (c.H.set id (.row ver n g))[id]? = some (.row ver n g) := by simp [hlt]
  have hoth : ∀ i, i ≠ id → (c.H.set id (AO.row ver n g))[i]? = c.H[i]? := fun i hi => List.getElem?_set_ne (Ne.symm hi)
  let c' : Ctx := ⟨c.w, c.S, c.γ, c.H.set id (.row ver n g)⟩
  have hinf : ∀ i, inf c'.H i = inf c.H i := fun i => by
    by_cases hi : i = id
    · subst hi; simp [inf, c', hat, ho, AO.info]
    · simp [inf, c', hoth i hi]
  have hdead : ∀ i : Nat, c'.H[i]? = some AO.dead ↔ c.H[i]? = some AO.dead := fun i => by
    by_cases hi : i = id
    · subst hi; simp [c', hat, ho]
    · simp [c', hoth i hi]
  have hmap : ∀ (i : Nat) k q, c.H[i]? = some (AO.map k q) ↔ c'.H[i]? = some (AO.map k q) := fun i k q => by
    by_cases hi : i = id
    · subst hi; simp [c', hat, ho]
    · simp [c', hoth i hi]
  have hrep : ∀ {v a}, Rep c v a → Rep c' v a := fun hv => rep_heap (c := c) (c' := c') rfl rfl rfl hinf hdead (fun i k q => (hmap i k q).1) hv
  have howns : ∀ b, owns c' b → owns c b := by
    rintro b ⟨i, o, sz, hoi, hown, hg⟩
    by_cases hi : i = id
    · subst hi; exact ⟨i, _, sz, ho, rfl, hg⟩
    · exact ⟨i, o, sz, by rw [← hoth i hi]; exact hoi, hown, hg⟩
  have hext : Ext c c' := by
    refine ⟨?_, fun b h => h, fun b h => .inl h, fun b h => .inr (howns b h), fun _ _ _ => rfl, Nat.le_refl _, rfl, rfl, rfl⟩
    intro i o hoi
    have key : ∀ v, inf c.H i = some v → (c'.H[i]? = some .dead ∨ ∃ v', Ab.inf c'.H i = some v' ∧ (v < v' ∨ (v' = v ∧ c'.γ i = c.γ i))) :=
      fun v hv => .inr ⟨v, by rw [hinf]; exact hv, .inr ⟨rfl, rfl⟩⟩
    cases o with
    | unborn => trivial
    | dead => exact (hdead i).2 hoi
    | row v _ _ => exact key v (by simp [inf, hoi, AO.info])
    | con v _ _ => exact key v (by simp [inf, hoi, AO.info])
    | map k q => exact .inr ⟨⟨k, q, (hmap i k q).1 hoi⟩, rfl⟩
  refine ⟨c', rfl, hext.toB m, hst.size, hst.defers, fun i => hrep (hst.slots i), by simp [c', hH], ?_⟩
  refine ⟨?_, ?_, ?_, ?_, hst.hrel.bound⟩
  · intro i v k q hoi
    by_cases hi : i = id
    · subst hi
      simp only [c'] at hoi
      rw [hat] at hoi; cases hoi
      rcases hst.hrel.row i ver n f ho with h | ⟨b, sz, cs, el, h1, h2, h3, h4, h5, h6⟩
      · exact .inl h
      · exact .inr ⟨b, sz, cs, el, h1, h2, h3, h4, h5, fun j hj => hrep (hfg j hj c _ rfl hst.hrel (h6 j hj))⟩
    · simp only [c'] at hoi
      rw [hoth i hi] at hoi
      rcases hst.hrel.row i v k q hoi with h | ⟨b, sz, cs, el, h1, h2, h3, h4, h5, h6⟩
      · exact .inl h
      · exact .inr ⟨b, sz, cs, el, h1, h2, h3, h4, h5, fun j hj => hrep (h6 j hj)⟩
  · intro i v k q hoi
    by_cases hi : i = id
    · subst hi; simp only [c'] at hoi; rw [hat] at hoi; cases hoi
    · simp only [c'] at hoi
      rw [hoth i hi] at hoi
      rcases hst.hrel.con i v k q hoi with h | ⟨b, sz, cs, el, fr, h1, h2, h3, h4, h5, h6⟩
      · exact .inl h
      · exact .inr ⟨b, sz, cs, el, fr, h1, h2, h3, h4, h5, fun j hj => hrep (h6 j hj)⟩
  · intro i k q hoi
    obtain ⟨b, sz, es, cl, h1, h2, h3, h4⟩ := hst.hrel.map i k q ((hmap i k q).2 hoi)
    exact ⟨b, sz, es, cl, h1, h2, h3, h4.ext fun v a hv => hrep hv⟩
  · intro i i' o o' b sz sz' hoi hoi' h1 h2 hg hg'
    have key : ∀ (i : Nat) o, c'.H[i]? = some o → o.owned = true → ∃ o2 : AO, c.H[i]? = some o2 ∧ o2.owned = true := by
      intro i o hoi h
      by_cases hi : i = id
      · subst hi; exact ⟨_, ho, rfl⟩
      · exact ⟨o, by rw [← hoth i hi]; exact hoi, h⟩
    obtain ⟨o2, k1, k2⟩ := key i o hoi h1
    obtain ⟨o3, k3, k4⟩ := key i' o' hoi' h2
    exact hst.hrel.inj _ _ _ _ _ _ _ k1 k3 k2 k4 hg hg'

theorem retCell {P : Program} {fn : Func} {str hcs : List Nat} {m : Nat} {r v : AV} {H : List AO} {s : AS} {t u : Nat} (hr : fn.results = #[.cell t u]) (h : aload P false u (s.get t) s.h = some v) (e : v = r) (hH : s.h.take m = H) : RetOk (envC P fn str hcs m r H) s :=
  ⟨v, by simp [resX, resV, envC, hr, resList, resAt, packR, h], e, hH⟩
section
variable (P : Program) (fn : Func) (str hcs : List Nat) (b : Nat) (r : AV) (H' : List AO)
theorem envC_P : (envC P fn str hcs b r H').P = P := nrfl rfl
theorem envC_fn : (envC P fn str hcs b r H').fn = fn := nrfl rfl
theorem envC_str : (envC P fn str hcs b r H').str = str := nrfl rfl
theorem envC_hcs : (envC P fn str hcs b r H').hcs = hcs := nrfl rfl
theorem envC_base : (envC P fn str hcs b r H').base = b := rfl
end
end
end Go.Ab
namespace Go.Ab
open Go Go.RowKit
noncomputable section
set_option linter.defProp false
def wPre := And.intro @frz_nil (And.intro @frz_cons (And.intro @frz1_ref (And.intro @frz1_osl (And.intro @frzO_row (And.intro @frzO_con (And.intro @frzAt_nil (And.intro @frzAt_cons (And.intro @vc_seq (And.intro @vc_skip (And.intro @vc_label (And.intro @vc_block (And.intro @vc_scope (And.intro @vc_inBlock (And.intro @vc_inScope (And.intro @Nvc_zero (And.intro @Nvc_ret (And.intro @Nvc_nil (And.intro @Nvc_loop (And.intro @Nvc_inLoop (And.intro @vc_exitC (And.intro @vc_condC (And.intro @Nvc_region (And.intro @Nvc_draw (And.intro @vcOps_nil (And.intro @vcOps_consL (And.intro @NvcOps_gdT (And.intro @NvcOps_gdF (And.intro @vcOps_nextN (And.intro @vcOps_nextS (And.intro @NvcOp_call (And.intro @Nop_pick (And.intro @Nop_extract (And.intro @Nop_move (And.intro @Nop_assign (And.intro @Nop_load (And.intro @Nop_bin (And.intro @Nop_un (And.intro @Nop_conv (And.intro @Nop_indexAddr (And.intro @Nop_index (And.intro @Nop_fieldAddr (And.intro @Nop_field (And.intro @Nop_build (And.intro @Nop_buildSlice (And.intro @Nop_store (And.intro @Nop_mapUpdate (And.intro @Nop_insert (And.intro @Nop_lookup (And.intro @Nop_nilCheck (And.intro @Nop_slice (And.intro @Nop_slice3 (And.intro @Nop_makeFunc (And.intro @Nop_len (And.intro @Nop_min (And.intro @Nop_max (And.intro @Nop_append (And.intro @Nop_copy (And.intro @Nop_appendZ (And.intro @Nop_cap (And.intro @Nop_alloc (And.intro @Nop_box (And.intro @Nop_make (And.intro @Nop_makeMap (And.intro @Nop_allocS (And.intro @Nop_boxS (And.intro @Nop_makeS (And.intro @Nop_makeMapS (And.intro @obind_some (And.intro @obind_oif (And.intro @guardP_true (And.intro @guardP_false (And.intro @guardP_dec (And.intro @guardP_ndec (And.intro @cAt_bool (And.intro @gAt_bool (And.intro @gAt_undef (And.intro @gAt_tup (And.intro @dAt_some (And.intro @pAt_true (And.intro @pAt_false (And.intro @xAt_zero (And.intro @xAt_succ (And.intro @eAt_some (And.intro @cAt_abool (@normS_ok)))))))))))))))))))))))))))))))))))))))))))))))))))))))))))))))))))))))))))))))))))))
def wPost := And.intro @obind_some (And.intro @obind_oif (And.intro @guardP_true (And.intro @guardP_false (And.intro @guardP_dec (And.intro @guardP_ndec (And.intro @cAt_bool (And.intro @gAt_bool (And.intro @gAt_undef (And.intro @gAt_tup (And.intro @dAt_some (And.intro @pAt_true (And.intro @pAt_false (And.intro @xAt_zero (And.intro @xAt_succ (And.intro @eAt_some (And.intro @normS_ok (And.intro @obind_none (And.intro @mkS_lit (And.intro @dstAt_zero (And.intro @dstAt_succ (And.intro @exitTo_in (And.intro @exitTo_code (And.intro @exitTo_loop (And.intro @exitTo_scope (And.intro @ev_tmp (And.intro @ev_const (And.intro @ev_func (And.intro @get_lit (And.intro @putO_some (And.intro @putO_none (And.intro @fix_lit (And.intro @clr_nil (And.intro @clr_hid (And.intro @drawS_lit (And.intro @cst_int (And.intro @cst_bool (And.intro @cst_str (And.intro @cst_nil (And.intro @cst_sl (And.intro @cst_map (And.intro @cst_fn (And.intro @envP_P (And.intro @envP_fn (And.intro @envP_str (And.intro @envP_hcs (And.intro @envH_P (And.intro @envH_fn (And.intro @envH_str (And.intro @envH_hcs (And.intro @envC_P (And.intro @envC_fn (And.intro @envC_str (And.intro @envC_hcs (And.intro @abin_shl (And.intro @abin_shr (And.intro @abin_add (And.intro @abin_sub (And.intro @abin_mul (And.intro @abin_quo (And.intro @abin_rem (And.intro @abin_and (And.intro @abin_or (And.intro @abin_xor (And.intro @abin_andNot (And.intro @abin_eql (And.intro @abin_neq (And.intro @abin_lss (And.intro @abin_leq (And.intro @abin_gtr (And.intro @abin_geq (And.intro @abin_beql (And.intro @abin_bneq (And.intro @abin_nn (And.intro @abin_nnn (And.intro @abin_pn (And.intro @abin_pnn (And.intro @abin_rn (And.intro @abin_rnn (And.intro @aun_not (And.intro @aun_neg (And.intro @aun_xor (And.intro @amin_int (And.intro @amax_int (And.intro @one_int (And.intro @one_bool (And.intro @one_str (And.intro @one_nil (And.intro @one_ptr (And.intro @one_sl (And.intro @one_ref (And.intro @one_osl (And.intro @one_mp (And.intro @one_cmap (And.intro @cells_cmap (And.intro @loose_cmap (And.intro @one_nilmap (And.intro @one_fn (And.intro @one_nilfn (And.intro @one_nilif (And.intro @one_iface (And.intro @one_any (And.intro @cells_agg (And.intro @cells_int (And.intro @loose_int (And.intro @cells_bool (And.intro @loose_bool (And.intro @cells_str (And.intro @loose_str (And.intro @cells_nil (And.intro @loose_nil (And.intro @cells_ptr (And.intro @loose_ptr (And.intro @cells_sl (And.intro @loose_sl (And.intro @cells_ref (And.intro @loose_ref (And.intro @cells_osl (And.intro @loose_osl (And.intro @cells_mp (And.intro @loose_mp (And.intro @cells_nilmap (And.intro @loose_nilmap (And.intro @cells_fn (And.intro @loose_fn (And.intro @cells_nilfn (And.intro @loose_nilfn (And.intro @cells_nilif (And.intro @loose_nilif (And.intro @cells_iface (And.intro @loose_iface (And.intro @loose_agg (And.intro @loose_tup (And.intro @oif_true (And.intro @oif_false (And.intro @obind_map (And.intro @zfun_one (And.intro @upd_ofL (And.intro @one_getD1 (And.intro @ofL_at (And.intro @I_def (And.intro @slF_at (And.intro @one_ofL1 (And.intro @one_slI (And.intro @one_slInts (And.intro @appF_I (And.intro @abinC_tmp (And.intro @abinC_int (And.intro @abinC_bool (And.intro @abinC_str (And.intro @abinC_ptr (And.intro @abinC_nilif (And.intro @abinC_nil (And.intro @anil_eql (And.intro @anil_neq (And.intro @abin_aeql (And.intro @abin_aneq (And.intro @aeqA_nil (And.intro @aeqA_int (And.intro @aun_nota (And.intro @map_someB (And.intro @appF_Is (@cAt_abool))))))))))))))))))))))))))))))))))))))))))))))))))))))))))))))))))))))))))))))))))))))))))))))))))))))))))))))))))))))))))))))))))))))))))))))))))))))))))))))))))
end
end Go.Ab
namespace Go.Ab
open Go Go.RowKit Go.ChangeShapes Go.WideShapes Go.ChangeAt
noncomputable section
variable {H : Type} {enc : TypeId × Value → H} {P : Program}

theorem below_of_ext {W w' : World} {S S' : Nat → Prop} (hx : Ext (.bare W S) (.bare w' S')) : Below W.heap.size W w' :=
  ⟨hx.os, hx.tape, hx.output, hx.size, fun _ hk => hx.same _ hk owns_bare⟩

/-- All that is there is settled. -/
def allOf (W : World) : Nat → Prop := fun b => b < W.heap.size
theorem calls_true {f : FuncId} {as : List AV} (h : PureCall P f as (.bool true)) {W : World} {vs : Array Value} (hv : RepL (.bare W (allOf W)) vs as) : Calls P f vs W fun e W' => e = .returned (.bool true) ∧ Below W.heap.size W W' := by
  refine (h.2 W (allOf W) vs (fun _ h => h) hv).mono ?_
  rintro e w' ⟨v, S', rfl, hr, _, hx⟩
  cases hr
  exact ⟨rfl, below_of_ext hx⟩

theorem i64_of_wf {n : Int} (h : (Lit.int .i64 n).wf = true) : -9223372036854775808 ≤ n ∧ n < 9223372036854775808 := by
  have : IntKind.i64.min ≤ n ∧ n ≤ IntKind.i64.max := by simpa [Lit.wf] using h
  have e1 : IntKind.i64.min = -9223372036854775808 := by decide
  have e2 : IntKind.i64.max = 9223372036854775807 := by decide
  omega

/-- An argument that is a list of integers, as the layer sees it. -/
theorem open_intsR {t e : TypeId} {r : Reach} {b0 : Nat} {base : Nat} {sp : Nat → Bool} {held : Bool} {W : World} {v : Value} {d : DataW H} {ps : List MemPlace} (ht : P.underlying t = some (.slice e)) (he : P.underlying e = some (.int .i64)) (hc : P.cellsOf e = 1)
    (hval : Value.okWide P W r b0 t v) (h : DataW.Trod enc P W base sp held t v d ps) :
    ∃ l : List Int, (∀ x ∈ l, -9223372036854775808 ≤ x ∧ x < 9223372036854775808) ∧ l.length ≤ maxLen ∧ Rep (.bare W (allOf W)) v (.sl l.length l.length (slF I 0 l) false) := by
  obtain ⟨a0, len, cap, rfl⟩ := okWide_slice ht hval
  obtain ⟨fuel, hf⟩ := h
  rcases open_ints ht he hc hf with ⟨hcs, hx⟩ | ⟨a, len', cap', zs, hcs, _, hl, hm, hz, hx, hcell, hwz⟩
  · simp [Value.cells] at hcs
    obtain ⟨rfl, rfl, rfl⟩ := hcs
    exact ⟨[], by simp, by simp, .slz _ _ _ _ (by simp)⟩
  · simp [Value.cells] at hcs
    obtain ⟨rfl, rfl, rfl⟩ := hcs
    have hlen : len ≤ zs.length := by rw [hz]; split <;> omega
    refine ⟨zs.take len, fun x hx => i64_of_wf (hwz x (List.mem_of_mem_take hx)), by rw [List.length_take]; exact Nat.le_trans (Nat.min_le_left _ _) (Nat.le_trans hl hm), ?_⟩
    rw [List.length_take, Nat.min_eq_left hlen]
    rcases Nat.eq_zero_or_pos len with h0 | h0
    · subst h0; exact .slz _ _ _ _ (by simp)
    · have c0 := hcell 0 (by omega)
      have hsp : a.spot = none := by
        unfold World.cell? at c0
        split at c0
        · cases hs : a.spot with
          | none => rfl
          | some s => simp [Addr.add, hs] at c0
        · cases c0
      obtain ⟨ab, ao, as⟩ := a
      simp only at hsp
      subst hsp
      have hb : ab < W.heap.size := by
        unfold World.cell? at c0
        split at c0
        · rename_i h; exact (Array.getElem?_eq_some_iff.1 h).1
        · cases c0
      refine .sl ab ao len len cap _ false (fun j => .int .i64 (zs.getD j 0)) hb (fun j hj => ?_) (fun j hj => ?_) hl (by simp)
      · have := hcell j (by omega)
        rwa [Addr.add_lit] at this
      · have : (zs.take len).getD j 0 = zs.getD j 0 := by simp [List.getD_eq_getElem?_getD, hj]
        rw [slF_at, this]
        exact .int _ _

/-- The arguments read as they did. -/
theorem trodAll_stays (hl : laidOutB P = true) {W W' : World} {sp' : Nat → Bool} (hb : Below W.heap.size W W') : ∀ {ts : List TypeId} {vs : List Value} {ds : List (DataW H)} {p : List MemPlace}, (∀ t ∈ ts, P.readableRec t = true ∧ t < P.types.size) →
    DataW.TrodAll enc P W 0 (fun _ => true) true ts vs ds p → (∀ x ∈ p, x.block < W.heap.size) → (∀ x ∈ p, sp' x.block = true) → DataW.TrodAll enc P W' 0 sp' true ts vs ds p
  | [], _, _, _, _, h, _, _ => by
    obtain ⟨rfl, rfl, rfl⟩ := trodAll_nil h
    exact trodAll_mk0
  | t :: ts, _, _, _, ht, h, hlt, hsp => by
    obtain ⟨v, vs1, d, ds1, a, b, rfl, rfl, rfl, h1, h2⟩ := trodAll_cons h
    obtain ⟨r1, r2⟩ := ht t (by simp)
    exact trodAll_cons_mk (WideElems.Trod_stays hl r1 r2 h1 (fun x hx => hb.same (hlt x (by simp [hx]))) (fun x hx => hsp x (by simp [hx])))
      (trodAll_stays hl hb (fun t' ht' => ht t' (by simp [ht'])) h2 (fun x hx => hlt x (by simp [hx])) (fun x hx => hsp x (by simp [hx])))

theorem post_true {f : Func} {s : ChangeSpec} {apart fresh handsOn again : Bool} {W W' : World} {args : Array Value} {ds : List (DataW H)} {p : List MemPlace} {tb : TypeId} (hl : laidOutB P = true)
    (hW : DataW.Whole enc P f.params.toList s.vars apart W args.toList ds [] p) (hA : DataW.TrodAll enc P W 0 (fun _ => true) true f.params.toList args.toList ds p) (hv : s.vars = [])
    (hts : ∀ t ∈ f.params.toList, P.readableRec t = true ∧ t < P.types.size) (hres : f.resultTypes = #[tb]) (hb : P.underlying tb = some .bool)
    (hfn : s.fn H (ds ++ []) = { results := [.lit (.bool true)], args := ds }) (hbel : Below W.heap.size W W') : s.post enc P f apart fresh handsOn again W args (.bool true) W' := by
  have hlt : ∀ x ∈ p, x.block < W.heap.size := fun x hx => by simpa using hW.lt x hx
  have hargs : ∀ sp : Nat → Bool, (∀ q ∈ p, sp q.block = true) → DataW.TrodAll enc P W' 0 sp true f.params.toList args.toList (s.fn H (ds ++ [])).args p := fun sp hsp => by
    rw [hfn]; exact trodAll_stays hl hbel hts hA hlt hsp
  have hvars : ∀ sp : Nat → Bool, DataW.TrodVars enc P W' sp s.vars (s.fn H (ds ++ [])).vars [] := fun sp => by
    rw [hfn, hv]; rfl
  have hr : ∀ (b : Nat) (sp : Nat → Bool) (hd : Bool), DataW.TrodAll enc P W' b sp hd f.resultTypes.toList ((Value.bool true).resultList f.resultTypes.size) (s.fn H (ds ++ [])).results [] := fun b sp hd => by
    rw [hfn, hres]; exact trodAll_cons_mk (shut_bool hb _) trodAll_mk0
  have hold : ∀ q ∈ p, (fun b => decide (b < W.heap.size)) q.block = true := fun q hq => by simpa using hlt q hq
  refine ⟨ds, [], p, [], p, [], hW, hr _ _ _, hargs _ hold, hvars _, World.keptBut_mono (fun q hq => ⟨hq, .inr (.inl hq)⟩) (hbel.frame _), fun _ => ?_⟩
  obtain ⟨_, _, _, _, _, hz, hn⟩ := hW
  refine ⟨ok_one (by rw [hres]) rfl (okWide_bool_mk hb _), _, _, ([] ++ p) ++ [], ⟨[] ++ p, [], trodAll_append (hargs _ (fun _ _ => rfl)) (hr _ _ _), hvars _, rfl, ?_, ?_⟩, ?_⟩
  · intro b off hp
    have hp' : MemPlace.cell b off ∈ p := by simpa using hp
    rw [hbel.frozen (p := ⟨b, off, none⟩) (hlt _ hp')]
    exact hz b off hp'
  · intro ha
    simpa using hn ha
  · intro q hq _
    simpa using hq
end
end Go.Ab
namespace Go.Ab
open Go Go.RowKit
noncomputable section

/-- A new empty object. -/
theorem sub_new {m : Nat} {s : AS} (f : Nat → AV) : Sub m s { s with h := s.h ++ [AO.row 0 0 f] } := by
  intro N c a hst
  have hH := hst.heap
  have hset : (c.H ++ [AO.row 0 0 f])[c.H.length]? = some (.row 0 0 f) := by simp
  have hoth : ∀ i, i ≠ c.H.length → (c.H ++ [AO.row 0 0 f])[i]? = c.H[i]? := fun i hi => by
    have := newO_other (nid := none) (h := c.H) (o := .row 0 0 f) i (by simpa [place] using hi)
    simpa [newO] using this
  obtain ⟨g1, g2⟩ := upd_none hst.hrel (id := c.H.length) (ver := 0) (w := c.w) hset hoth rfl (.inl (by simp))
  exact ⟨⟨c.w, c.S, setG c.γ c.H.length none, c.H ++ [.row 0 0 f]⟩, rfl, g2.toB m, hst.size, hst.defers, fun j => g2.rep hst.hrel (hst.slots j), by simp [hH], g1⟩
theorem weakIn_empty {H : List AO} {id ver n M es : Nat} {f q : Nat → AV} (ho : H[id]? = some (.row ver n f)) : WeakIn H (.sl 0 M q true) (.osl id ver es 0 0) := by
  intro c v hH _ hv
  have hinf : inf c.H id = some ver := by simp [inf, hH, ho, AO.info]
  cases hv with
  | sl _ _ _ _ _ _ _ _ _ _ _ _ ht => have := ht rfl; subst this; exact .oslz _ _ _ _ _ hinf
  | slz _ _ _ _ ht => have := ht rfl; subst this; exact .oslz _ _ _ _ _ hinf
theorem set_app (A : List AO) (b x y : AO) (id : Nat) (h : id < A.length) : (A.set id x ++ [b]).set id y = (A ++ [b]).set id y := by
  rw [List.set_append_left _ _ (by simpa using h), List.set_set, List.set_append_left _ _ h]
/-- The empty slices that an object holds become objects. -/
theorem sub_adoptc {m : Nat} {s : AS} (id es : Nat) {ver n M : Nat} {q : Nat → AV} (f : Nat → AV) (ho : s.h[id]? = some (.row ver n fun _ => .sl 0 M q true)) : ∀ k, k ≤ n →
    Sub m s { s with h := (s.h ++ List.replicate k (AO.row 0 0 f)).set id (.row ver n fun j => if j < k then .osl (s.h.length + j) 0 es 0 0 else .sl 0 M q true) }
  | 0, _ => by
    have e : (s.h ++ List.replicate 0 (AO.row 0 0 f)).set id (.row ver n fun j => if j < 0 then .osl (s.h.length + j) 0 es 0 0 else .sl 0 M q true) = s.h := by
      simp only [List.replicate_zero, List.append_nil, Nat.not_lt_zero, if_false]
      refine List.ext_getElem? fun i => ?_
      by_cases hi : i = id
      · subst hi; rw [ho]; have := (List.getElem?_eq_some_iff.1 ho).1; simp [this]
      · rw [List.getElem?_set_ne (Ne.symm hi)]
    rw [e]; exact Sub.rfl' _ _
  | k + 1, hk => by
    have hlt := (List.getElem?_eq_some_iff.1 ho).1
    refine (sub_adoptc id es f ho k (by omega)).trans ((sub_new f).trans ?_)
    have e1 : (((s.h ++ List.replicate k (AO.row 0 0 f)).set id (.row ver n fun j => if j < k then .osl (s.h.length + j) 0 es 0 0 else .sl 0 M q true)) ++ [AO.row 0 0 f])[id]? = some (.row ver n fun j => if j < k then .osl (s.h.length + j) 0 es 0 0 else .sl 0 M q true) := by
      rw [List.getElem?_append_left (by simp; omega)]
      rw [List.getElem?_set_self (by simp; omega)]
    have e2 : (((s.h ++ List.replicate k (AO.row 0 0 f)).set id (.row ver n fun j => if j < k then .osl (s.h.length + j) 0 es 0 0 else .sl 0 M q true)) ++ [AO.row 0 0 f])[s.h.length + k]? = some (.row 0 0 f) := by
      rw [List.getElem?_append_right (by simp)]
      simp
    have := sub_roww (m := m) (s := { s with h := ((s.h ++ List.replicate k (AO.row 0 0 f)).set id (.row ver n fun j => if j < k then .osl (s.h.length + j) 0 es 0 0 else .sl 0 M q true)) ++ [AO.row 0 0 f] }) id
      (fun j => if j < k + 1 then .osl (s.h.length + j) 0 es 0 0 else .sl 0 M q true) e1 (fun j hj => by
        by_cases h1 : j < k
        · simp only [h1, if_true, show j < k + 1 by omega]; exact weakIn_rfl _ _
        · by_cases h2 : j = k
          · subst h2
            simp only [Nat.lt_irrefl, if_false, show j < j + 1 by omega, if_true]
            exact weakIn_empty e2
          · simp only [h1, if_false, show ¬ j < k + 1 by omega]; exact weakIn_rfl _ _)
    have e3 : (((s.h ++ List.replicate k (AO.row 0 0 f)).set id (.row ver n fun j => if j < k then .osl (s.h.length + j) 0 es 0 0 else .sl 0 M q true)) ++ [AO.row 0 0 f]).set id (.row ver n fun j => if j < k + 1 then .osl (s.h.length + j) 0 es 0 0 else .sl 0 M q true) =
        (s.h ++ List.replicate (k + 1) (AO.row 0 0 f)).set id (.row ver n fun j => if j < k + 1 then .osl (s.h.length + j) 0 es 0 0 else .sl 0 M q true) := by
      rw [List.replicate_succ', ← List.append_assoc]
      exact set_app _ _ _ _ _ (by simp; omega)
    rw [← e3]
    exact this

/-- A slot told by less, in this heap. -/
theorem sub_weakIn {m : Nat} {s : AS} (i : Nat) (b : AV) (hi : i < s.n0) (hw : WeakIn s.h (s.sl.getD i .any) b) : Sub m s { s with sl := s.sl.set i b } := by
  intro N c a hst
  refine ⟨c, rfl, (Ext.refl c).toB m, hst.size, hst.defers, fun j => ?_, hst.heap, hst.hrel⟩
  have := hst.slots j
  unfold AS.get at this ⊢
  by_cases hj : j < s.n0
  · simp only [hj, if_true] at this ⊢
    by_cases he : j = i
    · subst he
      by_cases hl : j < s.sl.length
      · rw [List.getD_eq_getElem?_getD, List.getElem?_set_self hl]; exact hw _ _ hst.heap hst.hrel this
      · rw [List.set_eq_of_length_le (by omega)]; exact this
    · rw [List.getD_eq_getElem?_getD, List.getElem?_set_ne (Ne.symm he), ← List.getD_eq_getElem?_getD]; exact this
  · simp only [hj, if_false] at this ⊢; exact this
theorem weakIn_slW {H : List AO} {n n' m m' : Nat} {f f' : Nat → AV} {t : Bool} (hn : n = n') (hm : m' ≤ m) (hf : ∀ j, j < m' → WeakIn H (f j) (f' j)) : WeakIn H (.sl n m f t) (.sl n' m' f' false) := fun c v hH hR h => by
  subst hn
  cases h with
  | sl b base _ _ cap _ _ us hS hc hr hn ht => exact .sl b base n m' cap f' false us hS (fun j hj => hc j (by omega)) (fun j hj => hf j hj c _ hH hR (hr j (by omega))) hn (by simp)
  | slz a cap _ _ ht =>
    obtain rfl : m' = 0 := by omega
    exact .slz _ _ _ _ (by simp)
/-- A slice of a constant object is what it holds. -/
theorem weakIn_osl {H : List AO} {id ver es n k M : Nat} {f g : Nat → AV} (ho : H[id]? = some (.con ver k f)) (hle : M ≤ k) (hM : n = 0 → M = 0) (hg : ∀ j, j < M → WeakIn H (f j) (g j)) : WeakIn H (.osl id ver es 0 n) (.sl n M g false) := by
  rintro c v rfl hr h
  have hinf : inf c.H id = some ver := by simp [inf, ho, AO.info]
  have hns : ¬ stale c.H id ver := by
    rintro (⟨v', hi, hlt⟩ | hd)
    · rw [hinf] at hi; cases hi; omega
    · simp [inf, hd, AO.info] at hinf
  have hz : n = 0 → ∀ b cap, Rep c (.slice b 0 cap) (.sl n M g false) := by
    rintro hn b cap
    rw [hn, hM hn]
    exact .slz _ _ _ _ (by simp)
  cases h with
  | osl _ _ _ _ _ cap b sz hi hgm hn hcap =>
    rcases hr.con id ver k f ho with ⟨h1, h2⟩ | ⟨b', sz', cs, el, fr, h1, h2, h3, h4, h5, h6⟩
    · rw [h1] at hgm; cases hgm
    · rw [h1] at hgm; cases hgm
      refine .sl b 0 n M cap g false (fun j => cs.getD j undef) h5 (fun j hj => ?_) (fun j hj => hg j hj c _ rfl hr (h6 j (by omega))) hn (by simp)
      rw [cell_of_row c.w b _ cs el fr h2]
      have hlt : j < cs.size := by omega
      simp [hlt, Array.getD]
  | oslz _ _ _ _ b hi => exact hz rfl b 0
  | oslOld _ _ _ _ _ b cap hn hs => exact absurd hs hns
  | oslzOld _ _ _ _ b hs => exact absurd hs hns
end
end Go.Ab
namespace Go.Ab
open Go Go.RowKit
noncomputable section

theorem take_succ_getD {α : Type} (l : List α) (d : α) (j : Nat) (h : j < l.length) : l.take (j + 1) = l.take j ++ [l.getD j d] := by
  rw [List.take_succ_eq_append_getElem h, List.getD_eq_getElem?_getD, List.getElem?_eq_getElem h]; rfl

theorem getD_mem {α : Type} {l : List α} {d : α} {j : Nat} (h : j < l.length) : l.getD j d ∈ l := by
  rw [List.getD_eq_getElem?_getD, List.getElem?_eq_getElem h]; exact List.getElem_mem _

theorem wj (j : Nat) (h : j < 4611686018427387904) : IntKind.i64.wrap ((j:Int) + 1) = ((j + 1 : Nat) : Int) := by rw [IntKind.wrap_i64]; omega

theorem weak_slE {n n' m m' : Nat} {f f' : Nat → AV} {t : Bool} (hn : n = n') (hm : m' ≤ m) (hf : ∀ j, j < m' → f j = f' j) : Weak (.sl n m f t) (.sl n' m' f' false) := by subst hn; exact weak_sl hm hf

theorem getD_take {α : Type} (l : List α) (d : α) (i j : Nat) (h : i < j) : (l.take j).getD i d = l.getD i d := by
  simp [List.getD_eq_getElem?_getD, List.getElem?_take, h]

theorem ret1E {P : Program} {fn : Func} {str hcs : List Nat} {r v : AV} {s : AS} {t : Nat} (hr : fn.results = #[.tmp t]) (h : s.get t = v) (hs : Settled r) (e : v = r) : RetOk (envP P fn str hcs r) s :=
  ret1 hr (sees_of hs (h.trans e))

theorem ret2E {P : Program} {fn : Func} {str hcs : List Nat} {a b x y : AV} {s : AS} {t u : Nat} (hr : fn.results = #[.tmp t, .tmp u]) (h1 : s.get t = x) (h2 : s.get u = y) (s1 : Settled a) (s2 : Settled b) (e1 : x = a) (e2 : y = b) :
    RetOk (envP P fn str hcs (.tup [a, b])) s := ret2 hr (sees_tup ⟨sees_of s1 (h1.trans e1), sees_of s2 (h2.trans e2), trivial⟩)

theorem ret3E {P : Program} {fn : Func} {str hcs : List Nat} {a b c x y z : AV} {s : AS} {t u v : Nat} (hr : fn.results = #[.tmp t, .tmp u, .tmp v]) (h1 : s.get t = x) (h2 : s.get u = y) (h3 : s.get v = z) (s1 : Settled a) (s2 : Settled b) (s3 : Settled c)
    (e1 : x = a) (e2 : y = b) (e3 : z = c) : RetOk (envP P fn str hcs (.tup [a, b, c])) s := ret3 hr (sees_tup ⟨sees_of s1 (h1.trans e1), sees_of s2 (h2.trans e2), sees_of s3 (h3.trans e3), trivial⟩)

theorem conEq_free {h h' : List AO} (h1 : ∀ o ∈ h, ∀ v n f, o ≠ .con v n f) (h2 : ∀ o ∈ h', ∀ v n f, o ≠ .con v n f) : ConEq h h' := by
  intro id v n f
  constructor
  · intro h; exact absurd rfl (h1 _ (List.mem_of_getElem? h) v n f)
  · intro h; exact absurd rfl (h2 _ (List.mem_of_getElem? h) v n f)

theorem weak_slW {n n' m m' : Nat} {f f' : Nat → AV} {t : Bool} (hn : n = n') (hm : m' ≤ m) (hf : ∀ j, j < m' → Weak (f j) (f' j)) : Weak (.sl n m f t) (.sl n' m' f' false) := fun c v h => by
  subst hn
  cases h with
  | sl b base _ _ cap _ _ us hS hc hr hn ht => exact .sl b base n m' cap f' false us hS (fun j hj => hc j (by omega)) (fun j hj => hf j hj c _ (hr j (by omega))) hn (by simp)
  | slz a cap _ _ ht =>
    obtain rfl : m' = 0 := by omega
    exact .slz _ _ _ _ (by simp)

theorem sees_of_weak {H : List AO} {a b : AV} (h : Settled b) (hw : Weak a b) : Sees H a b := fun c v hH hr hv => h.sees H c v hH hr (hw c v hv)

theorem weak_cut (l : List Int) {n m : Nat} {f : Nat → AV} {t : Bool} (h1 : n = l.length) (h2 : l.length ≤ m) (hf : ∀ j, j < l.length → f j = I (l.getD j 0)) : Weak (.sl n m f t) (ints l) :=
  weak_slE h1 h2 hf

theorem sees_intsF {l : List Int} {H : List AO} {a : AV} {id ver n m : Nat} {g : Nat → AV} (ha : a = .osl id ver 1 0 m) (ho : H[id]? = some (.row ver n g)) (hm : m = l.length) (hn : l.length ≤ n) (hg : ∀ j, j < l.length → g j = I (l.getD j 0)) : Sees H a (ints l) := by
  subst ha; subst hm
  exact sees_osl (.inl ho) (by omega) (by omega) fun j hj => by rw [Nat.zero_add, hg j hj]; exact (settled_I _).sees H

theorem bel_I (m : Nat) (n : Int) : Bel m (I n) := bel_of_settled (settled_I n)

theorem join2 {X : Env} {k : List Item} {s1 s2 : AS} {c a b : Prop} (s' : AS) (h1 : c → a ∧ b ∧ Sub X.base s1 s') (h2 : ¬ c → Sub X.base s2 s') (key : Run X k s') : (c → a ∧ b ∧ RunT X k .mk s1) ∧ (¬ c → RunT X k .mk s2) :=
  ⟨fun hc => ⟨(h1 hc).1, (h1 hc).2.1, key.sub (h1 hc).2.2⟩, fun hc => key.sub (h2 hc)⟩

theorem bel_any (m : Nat) : Bel m .any := fun _ v _ => .any v

theorem sees_two {H : List AO} {a b : AV} {x y : List Int} {t : Bool} (h1 : Sees H a (ints x)) (h2 : Sees H b (ints y)) : Sees H (.sl 2 2 (ofL [a, b]) t) (intss [x, y]) := by
  refine sees_sl (t := t) fun j hj => ?_
  rcases (show j = 0 ∨ j = 1 by omega) with rfl | rfl
  · exact h1
  · exact h2

theorem weak_lit (L : List Int) (t : Bool) : Weak (.sl L.length L.length (ofL (L.map I)) t) (ints L) := weak_slW rfl (Nat.le_refl _) fun j hj => by
  have : ofL (L.map I) j = I (L.getD j 0) := by
    unfold ofL
    simp [List.getD_eq_getElem?_getD, hj]
  rw [this]; exact Weak.rfl' _

theorem sub_weak {m : Nat} {s : AS} (i : Nat) (b : AV) (hi : i < s.n0) (hw : Weak (s.sl.getD i .any) b) : Sub m s { s with sl := s.sl.set i b } := by
  intro N c a hst
  refine ⟨c, rfl, (Ext.refl c).toB m, hst.size, hst.defers, fun j => ?_, hst.heap, hst.hrel⟩
  have := hst.slots j
  unfold AS.get at this ⊢
  by_cases hj : j < s.n0
  · simp only [hj, if_true] at this ⊢
    by_cases he : j = i
    · subst he
      by_cases hl : j < s.sl.length
      · rw [List.getD_eq_getElem?_getD, List.getElem?_set_self hl]; exact hw _ _ this
      · rw [List.set_eq_of_length_le (by omega)]; exact this
    · rw [List.getD_eq_getElem?_getD, List.getElem?_set_ne (Ne.symm he), ← List.getD_eq_getElem?_getD]; exact this
  · simp only [hj, if_false] at this ⊢; exact this

theorem fn_weak {P : Program} {f : FuncId} {args : List AV} {r r' : AV} (h : Fn P f args r) (hw : Weak r r') : Fn P f args r' :=
  ⟨⟨h.call.1, fun w S vs hS hv => (h.call.2 w S vs hS hv).mono (by rintro e w' ⟨v, S', rfl, h1, h2, h3⟩; exact ⟨v, S', rfl, hw _ _ h1, h2, h3⟩)⟩, h.settled⟩

theorem weak_any (a : AV) : Weak a .any := fun _ v _ => .any v

theorem weak_tup {l m : List AV} (h : WeakL l m) : Weak (.tup l) (.tup m) := fun c v hv => by
  cases hv with
  | tup vs _ hs hr =>
    obtain ⟨e, h'⟩ := h.spec (c := c)
    exact .tup vs m (by omega) fun j hj => h' j (by omega) _ (hr j (by omega))

theorem flat_any : Flat .any := fun _ _ v _ => .any v

def in64 (n : Int) : Prop := -9223372036854775808 ≤ n ∧ n < 9223372036854775808

def aroundF (n m : Int) : Int := (if n < 0 then -(n + 1) else n).tmod m

theorem aroundF_bound (n m : Int) (h : 0 < m) : 0 ≤ aroundF n m ∧ aroundF n m < m := by
  unfold aroundF
  have : 0 ≤ (if n < 0 then -(n + 1) else n) := by split <;> omega
  generalize (if n < 0 then -(n + 1) else n) = x at this
  rw [Int.tmod_eq_emod_of_nonneg this]
  exact ⟨Int.emod_nonneg _ (by omega), Int.emod_lt_of_pos _ h⟩

def atF (l : List Int) (i m : Int) : Int := if i < 0 ∨ l.length ≤ i then 0 else aroundF (l.getD i.toNat 0) m

theorem atF_bound (l : List Int) (i m : Int) (h : 0 < m) : 0 ≤ atF l i m ∧ atF l i m < m := by
  unfold atF
  split
  · omega
  · exact aroundF_bound _ _ h

def all64 (l : List Int) : Prop := ∀ x ∈ l, in64 x

theorem all64_at {l : List Int} (h : all64 l) (i : Nat) : in64 (l.getD i 0) := by
  rw [List.getD_eq_getElem?_getD]
  cases hx : l[i]? with
  | none => exact ⟨by decide, by decide⟩
  | some x => exact h x (List.mem_of_getElem? hx)

theorem in64_small {n : Int} (h1 : -1000 ≤ n) (h2 : n ≤ 1000) : in64 n := ⟨by omega, by omega⟩

theorem in64_lit {L : List Int} (h : ∀ x ∈ L, -1000 ≤ x ∧ x ≤ 1000) : ∀ x ∈ L, in64 x := fun x hx => in64_small (h x hx).1 (h x hx).2

theorem settled_fn0 (g : FuncId) : Settled (.fn g []) := settled_fn (by simp)

/-! ### Maps that are written no more -/
theorem settled_cmap (k : IntKind) (g : Int → Option Value) : Settled (.cmap k g) := fun c v h => by
  cases h with
  | cmap b _ _ es cl hS hh hm => exact .cmap b k g es cl hS hh hm
theorem sees_mp {H : List AO} {id : Nat} {k : IntKind} {g : Int → Option AV} {g' : Int → Option Value} (ho : H[id]? = some (.map k g))
    (hg : ∀ n, (g n = none ∧ g' n = none) ∨ (∃ b, g n = some (.bool b) ∧ g' n = some (.bool b)) ∨ (∃ q i, g n = some (.int q i) ∧ g' n = some (.int q i))) : Sees H (.mp id) (.cmap k g') := by
  rintro c v rfl hr hv
  obtain ⟨b, sz, es, cl, h1, h2, h3, h4⟩ := hr.map id k g ho
  cases hv with
  | mp _ b' sz' k' q hi hgm =>
    rw [h1] at hgm; cases hgm
    refine .cmap b k g' es cl (.inr ⟨id, _, sz, ho, rfl, h1⟩) h2 ⟨h4.keys, h4.uniq, fun n v hn => ?_, fun n hn => ?_⟩
    · rcases hg n with ⟨_, e⟩ | ⟨x, e1, e2⟩ | ⟨q, x, e1, e2⟩
      · rw [e] at hn; cases hn
      · obtain ⟨e, he, hk, hrp⟩ := h4.hit n _ e1
        rw [e2] at hn; cases hn
        refine ⟨e, he, hk, ?_⟩
        generalize e.val = y at hrp
        cases hrp; rfl
      · obtain ⟨e, he, hk, hrp⟩ := h4.hit n _ e1
        rw [e2] at hn; cases hn
        refine ⟨e, he, hk, ?_⟩
        generalize e.val = y at hrp
        cases hrp; rfl
    · rcases hg n with ⟨e, _⟩ | ⟨x, e1, e2⟩ | ⟨q, x, e1, e2⟩
      · exact h4.miss n e
      · rw [e2] at hn; cases hn
      · rw [e2] at hn; cases hn
  | mpOld _ r hi => rw [ho] at hi; cases hi
theorem retCellP {P : Program} {fn : Func} {str hcs : List Nat} {r v : AV} {s : AS} {t u : Nat} (hr : fn.results = #[.cell t u]) (h : aload P false u (s.get t) s.h = some v) (hs : Sees s.h v r) : RetOk (envP P fn str hcs r) s :=
  ⟨v, by simp [resV, envP_P, envP_fn, hr, resList, resAt, packR, h], hs⟩
end
end Go.Ab
namespace Go.Ab
open Go Go.RowKit
noncomputable section
set_option linter.defProp false

/-! ### Lists -/
section
variable {α β : Type}
theorem Fgetd_s (a : α) (l : List α) (n : Nat) (d : α) : (a :: l).getD (n + 1) d = l.getD n d := nrfl rfl
theorem Fgetd_z (a : α) (l : List α) (d : α) : (a :: l).getD 0 d = a := nrfl rfl
theorem Fset_s (a b : α) (l : List α) (n : Nat) : (a :: l).set (n + 1) b = a :: l.set n b := nrfl rfl
theorem Fset_z (a b : α) (l : List α) : (a :: l).set 0 b = b :: l := nrfl rfl
theorem Fmap_c (f : α → β) (a : α) (l : List α) : (a :: l).map f = f a :: l.map f := nrfl rfl
theorem Fmap_n (f : α → β) : ([] : List α).map f = [] := nrfl rfl
theorem Fall_c (f : α → Bool) (a : α) (l : List α) : (a :: l).all f = (f a && l.all f) := nrfl (List.all_cons ..)
theorem Fall_n (f : α → Bool) : ([] : List α).all f = true := nrfl (List.all_nil ..)
theorem Flen_c (a : α) (l : List α) : (a :: l).length = l.length + 1 := nrfl rfl
theorem Flen_n : ([] : List α).length = 0 := nrfl rfl
theorem Fapp_c (a : α) (l m : List α) : (a :: l) ++ m = a :: (l ++ m) := nrfl rfl
theorem Fapp_n (m : List α) : [] ++ m = m := nrfl rfl
theorem Fapp_e (l : List α) : l ++ [] = l := nrfl (List.append_nil l)
theorem Fget_s (a : α) (l : List α) (n : Nat) : (a :: l)[n + 1]? = l[n]? := nrfl rfl
theorem Fget_z (a : α) (l : List α) : (a :: l)[0]? = some a := nrfl rfl
theorem Frep_s (a : α) (n : Nat) : List.replicate (n + 1) a = a :: List.replicate n a := nrfl rfl
theorem Frep_z (a : α) : List.replicate 0 a = [] := nrfl rfl
theorem Fcon_c (a b : Nat) (l : List Nat) : (a :: l).contains b = (b == a || l.contains b) := nrfl (List.contains_cons ..)
theorem Fcon_n (b : Nat) : ([] : List Nat).contains b = false := nrfl rfl
theorem Fogd_n (d : α) : (none : Option α).getD d = d := nrfl rfl
theorem Fogd_s (a d : α) : (some a).getD d = a := nrfl rfl
theorem Fomap_s (f : α → β) (a : α) : (some a).map f = some (f a) := nrfl rfl
theorem Fomap_n (f : α → β) : (none : Option α).map f = none := nrfl rfl
theorem Fois_s (a : α) : (some a).isSome = true := nrfl rfl
end
theorem Ftn_z : (0 : Int).toNat = 0 := nrfl rfl
theorem Ftn_o : (1 : Int).toNat = 1 := nrfl rfl
theorem Ftn_c (n : Nat) : (n : Int).toNat = n := nrfl rfl
theorem Fdrop_s {α : Type} (a : α) (l : List α) (n : Nat) : (a :: l).drop (n + 1) = l.drop n := nrfl rfl
theorem Fdrop_z {α : Type} (l : List α) : l.drop 0 = l := nrfl rfl
theorem Ftake_s {α : Type} (a : α) (l : List α) (n : Nat) : (a :: l).take (n + 1) = a :: l.take n := nrfl rfl
theorem Ftake_z {α : Type} (l : List α) : l.take 0 = [] := nrfl rfl

/-! ### The state -/
theorem look_c (i : Nat) (v : AV) (l : List (Nat × AV)) (j : Nat) : look ((i, v) :: l) j = if j = i then v else look l j := nrfl rfl
theorem look_n (j : Nat) : look [] j = .any := nrfl rfl
theorem replT_c (i : Nat) (v : AV) (l : List (Nat × AV)) (d : Nat) (u : AV) : replT ((i, v) :: l) d u = if d = i then (i, u) :: l else (i, v) :: replT l d u := nrfl rfl
theorem replT_n (d : Nat) (u : AV) : replT [] d u = [] := nrfl rfl
theorem filtT_c (hid : List Nat) (i : Nat) (v : AV) (l : List (Nat × AV)) : filtT hid ((i, v) :: l) = if hid.contains i = true then (i, v) :: filtT hid l else filtT hid l := nrfl rfl
theorem filtT_n (hid : List Nat) : filtT hid [] = [] := nrfl rfl
theorem countL_c (hc : Bool) (o : Oper) (os : List Oper) : countL hc (o :: os) = (if cls hc o.op = 2 then 1 else 0) + countL hc os := nrfl rfl
theorem countL_n (hc : Bool) : countL hc [] = 0 := nrfl rfl
section
variable (hc : Bool)
theorem cls_move (x : Operand) : cls hc (.move x) = 0 := nrfl rfl
theorem cls_assign (x : Operand) : cls hc (.assign x) = 0 := nrfl rfl
theorem cls_pick (x y z : Operand) : cls hc (.pick x y z) = 0 := nrfl rfl
theorem cls_nilCheck (x : Operand) : cls hc (.nilCheck x) = 0 := nrfl rfl
theorem cls_bin (o : BinOp) (t : TypeId) (x y : Operand) (u : TypeId) : cls hc (.binOp o t x y u) = 0 := nrfl rfl
theorem cls_un (o : UnOp) (t : TypeId) (x : Operand) : cls hc (.unOp o t x) = 0 := nrfl rfl
theorem cls_conv (t u : TypeId) (x : Operand) : cls hc (.convert t u x) = 0 := nrfl rfl
theorem cls_fieldAddr (t : TypeId) (x : Operand) (j : Nat) : cls hc (.fieldAddr t x j) = 0 := nrfl rfl
theorem cls_field (t : TypeId) (x : Operand) (j : Nat) : cls hc (.field t x j) = 0 := nrfl rfl
theorem cls_indexAddr (t : TypeId) (x y : Operand) : cls hc (.indexAddr t x y) = 0 := nrfl rfl
theorem cls_index (t : TypeId) (x y : Operand) : cls hc (.index t x y) = 0 := nrfl rfl
theorem cls_extract (x : Operand) (j : Nat) : cls hc (.extract x j) = 0 := nrfl rfl
theorem cls_slice (t : TypeId) (x : Operand) (a b c : Option Operand) : cls hc (.slice t x a b c) = 0 := nrfl rfl
theorem cls_makeFunc (f : _root_.Go.Fn) (a b : Array Operand) : cls hc (.makeFunc f a b) = 0 := nrfl rfl
theorem cls_build (t : TypeId) (ps : Array (Nat × Operand)) : cls hc (.build t ps) = 0 := nrfl rfl
theorem cls_buildSlice (t : TypeId) (n : Nat) (ps : Array (Nat × Operand)) : cls hc (.buildSlice t n ps) = 0 := nrfl rfl
theorem cls_load (t : TypeId) (x : Operand) : cls hc (.load t x) = 1 := nrfl rfl
theorem cls_alloc (t : TypeId) : cls hc (.alloc t) = 2 := nrfl rfl
theorem cls_box (t : TypeId) (x : Operand) : cls hc (.box t x) = 2 := nrfl rfl
theorem cls_make (t : TypeId) (x y : Operand) : cls hc (.makeSlice t x y) = 2 := nrfl rfl
theorem cls_mkmap (t : TypeId) (x : Option Operand) : cls hc (.makeMap t x) = 2 := nrfl rfl
theorem cls_store (t : TypeId) (x y : Operand) : cls hc (.store t x y) = 3 := nrfl rfl
theorem cls_lookup (t : TypeId) (x y : Operand) (b : Bool) : cls hc (.lookup t x y b) = 3 := nrfl rfl
theorem cls_update (t : TypeId) (x y z : Operand) : cls hc (.mapUpdate t x y z) = 3 := nrfl rfl
theorem cls_insert (t : TypeId) (x y z : Operand) : cls hc (.insert t x y z) = 3 := nrfl rfl
theorem cls_len (a : Array Operand) (ts : Array TypeId) : cls hc (.call { callee := .builtin .len, args := a, argTypes := ts }) = 0 := nrfl rfl
theorem cls_min (a : Array Operand) (ts : Array TypeId) : cls hc (.call { callee := .builtin .min, args := a, argTypes := ts }) = 0 := nrfl rfl
theorem cls_max (a : Array Operand) (ts : Array TypeId) : cls hc (.call { callee := .builtin .max, args := a, argTypes := ts }) = 0 := nrfl rfl
theorem cls_cap (a : Array Operand) (ts : Array TypeId) : cls hc (.call { callee := .builtin .cap, args := a, argTypes := ts }) = 0 := nrfl rfl
theorem cls_copy (a : Array Operand) (ts : Array TypeId) : cls hc (.call { callee := .builtin .copy, args := a, argTypes := ts }) = 3 := nrfl rfl
theorem cls_append (a : Array Operand) (ts : Array TypeId) : cls hc (.call { callee := .builtin .append, args := a, argTypes := ts }) = 3 := nrfl rfl
theorem cls_callT (f : Operand) (a : Array Operand) (ts : Array TypeId) : cls true (.call { callee := .value f, args := a, argTypes := ts }) = 3 := nrfl rfl
theorem cls_callF (f : Operand) (a : Array Operand) (ts : Array TypeId) : cls false (.call { callee := .value f, args := a, argTypes := ts }) = 1 := nrfl rfl
end

/-! ### Reading and writing -/
section
variable (P : Program) (st : Bool) (t : TypeId) (h : List AO)
theorem rd_n (m : Nat) (f : Nat → AV) (off : Nat) : rd none m f off = oif (off < m) (some (f off)) := nrfl rfl
theorem rd_s (n m : Nat) (f : Nat → AV) (off : Nat) : rd (some n) m f off = oif (off + n ≤ m) (some (.agg (cellsFrom f off 0 n))) := nrfl rfl
theorem cellsFrom_z (f : Nat → AV) (off j : Nat) : cellsFrom f off j 0 = [] := nrfl rfl
theorem cellsFrom_s (f : Nat → AV) (off j n : Nat) : cellsFrom f off j (n + 1) = f (off + j) :: cellsFrom f off (j + 1) n := nrfl rfl
theorem updL_n (f : Nat → AV) (i : Nat) : updL f i [] = f := nrfl rfl
theorem updL_c (f : Nat → AV) (i : Nat) (v : AV) (l : List AV) : updL f i (v :: l) = updL (upd f i v) (i + 1) l := nrfl rfl
def aloadK (k : Option (Option Nat)) (st : Bool) (a : AV) (h : List AO) : Option AV :=
  match k with
  | none => none
  | some k =>
    match a with
    | .ptr m f off => rd k m f off
    | .ref id ver off =>
      match h[id]? with
      | some (.row v m f) => oif (st = false ∧ v = ver) (rd k m f off)
      | some (.con v m f) => oif (v = ver) (rd k m f off)
      | _ => none
    | _ => none
theorem aload_K (a : AV) : aload P st t a h = aloadK (ldk P t) st a h := nrfl rfl
def aloadR (k : Option Nat) (st : Bool) (ver off : Nat) (o : Option AO) : Option AV :=
  match o with
  | some (.row v m f) => oif (st = false ∧ v = ver) (rd k m f off)
  | some (.con v m f) => oif (v = ver) (rd k m f off)
  | _ => none
variable (k : Option Nat)
theorem aloadK_ptr (m : Nat) (f : Nat → AV) (off : Nat) : aloadK (some k) st (.ptr m f off) h = rd k m f off := nrfl rfl
theorem aloadK_ref (id ver off : Nat) : aloadK (some k) st (.ref id ver off) h = aloadR k st ver off h[id]? := nrfl rfl
theorem aloadR_row (ver off v m : Nat) (f : Nat → AV) : aloadR k st ver off (some (.row v m f)) = oif (st = false ∧ v = ver) (rd k m f off) := nrfl rfl
theorem aloadR_con (ver off v m : Nat) (f : Nat → AV) : aloadR k st ver off (some (.con v m f)) = oif (v = ver) (rd k m f off) := nrfl rfl
def astoreR (ts : Option Nat) (id ver off : Nat) (v : AV) (h : List AO) (o : Option AO) : Option (List AO) :=
  match o with
  | some (.row v' m f) => oif (v' = ver ∧ ts = some v.cells.length ∧ v.cells ≠ [] ∧ off + v.cells.length ≤ m ∧ v.cells.all AV.one = true) (some (h.set id (.row v' m (updL f off (v.cells.map AV.loose)))))
  | _ => none
theorem astore_ref (id ver off : Nat) (v : AV) : astore P t (.ref id ver off) v h = astoreR (tsize P t) id ver off v h h[id]? := nrfl rfl
theorem astoreR_row (ts : Option Nat) (id ver off : Nat) (v : AV) (v' m : Nat) (f : Nat → AV) : astoreR ts id ver off v h (some (.row v' m f)) =
    oif (v' = ver ∧ ts = some v.cells.length ∧ v.cells ≠ [] ∧ off + v.cells.length ≤ m ∧ v.cells.all AV.one = true) (some (h.set id (.row v' m (updL f off (v.cells.map AV.loose))))) := nrfl rfl

def aindexK (e : Option (TypeId × Nat × Nat)) (P : Program) (t : TypeId) (x : AV) (i : Int) : Option AV :=
  match e with
  | some (_, s, _) =>
    match x with
    | .sl n m f _ => oif (0 ≤ i ∧ i < n) (some (.ptr m f (i.toNat * s)))
    | .osl id ver _ off n => oif (0 ≤ i ∧ i < n) (some (.ref id ver (off + i.toNat * s)))
    | _ => none
  | none =>
    match arr P t with
    | some (n, s, _) =>
      match x with
      | .ptr m f off => oif (0 ≤ i ∧ i < n) (some (.ptr m f (off + i.toNat * s)))
      | .ref id ver off => oif (0 ≤ i ∧ i < n) (some (.ref id ver (off + i.toNat * s)))
      | _ => none
    | none => none
theorem aindex_K (x : AV) (k : IntKind) (i : Int) : aindex P t x (.int k i) = aindexK (elm P t) P t x i := nrfl (by
  unfold aindex aindexK; first | rfl | (cases elm P t <;> first | rfl | (cases x <;> rfl) | (cases arr P t <;> first | rfl | (cases x <;> rfl))))
def aindexA (a : Option (Nat × Nat × Option Nat)) (x : AV) (i : Int) : Option AV :=
  match a with
  | some (n, s, _) =>
    match x with
    | .ptr m f off => oif (0 ≤ i ∧ i < n) (some (.ptr m f (off + i.toNat * s)))
    | .ref id ver off => oif (0 ≤ i ∧ i < n) (some (.ref id ver (off + i.toNat * s)))
    | _ => none
  | none => none
theorem aindexK_sl (e s b n m : Nat) (f : Nat → AV) (q : Bool) (i : Int) : aindexK (some (e, s, b)) P t (.sl n m f q) i = oif (0 ≤ i ∧ i < n) (some (.ptr m f (i.toNat * s))) := nrfl rfl
theorem aindexK_osl (e s b id ver es off n : Nat) (i : Int) : aindexK (some (e, s, b)) P t (.osl id ver es off n) i = oif (0 ≤ i ∧ i < n) (some (.ref id ver (off + i.toNat * s))) := nrfl rfl
theorem aindexK_none (x : AV) (i : Int) : aindexK none P t x i = aindexA (arr P t) x i := nrfl rfl
theorem aindexA_ptr (n s : Nat) (q : Option Nat) (m : Nat) (f : Nat → AV) (off : Nat) (i : Int) : aindexA (some (n, s, q)) (.ptr m f off) i = oif (0 ≤ i ∧ i < n) (some (.ptr m f (off + i.toNat * s))) := nrfl rfl
theorem aindexA_ref (n s : Nat) (q : Option Nat) (id ver off : Nat) (i : Int) : aindexA (some (n, s, q)) (.ref id ver off) i = oif (0 ≤ i ∧ i < n) (some (.ref id ver (off + i.toNat * s))) := nrfl rfl

def afieldAK (k : Option (Nat × Nat × Option Nat)) (x : AV) : Option AV :=
  match k with
  | some (o, _, _) =>
    match x with
    | .ptr m f off => some (.ptr m f (off + o))
    | .ref id ver off => some (.ref id ver (off + o))
    | _ => none
  | none => none
theorem afieldA_K (x : AV) (i : Nat) : afieldA P t x i = afieldAK (fld P t i) x := nrfl rfl
theorem afieldAK_ptr (o s : Nat) (q : Option Nat) (m : Nat) (f : Nat → AV) (off : Nat) : afieldAK (some (o, s, q)) (.ptr m f off) = some (.ptr m f (off + o)) := nrfl rfl
theorem afieldAK_ref (o s : Nat) (q : Option Nat) (id ver off : Nat) : afieldAK (some (o, s, q)) (.ref id ver off) = some (.ref id ver (off + o)) := nrfl rfl
def afieldK (k : Option (Nat × Nat × Option Nat)) (x : AV) : Option AV :=
  match k with
  | some (o, _, k) => match x with | .agg l => apart k l o | _ => none
  | none => none
theorem afield_K (x : AV) (i : Nat) : afield P t x i = afieldK (fld P t i) x := nrfl rfl
theorem afieldK_agg (o s : Nat) (q : Option Nat) (l : List AV) : afieldK (some (o, s, q)) (.agg l) = apart q l o := nrfl rfl
theorem apart_n (l : List AV) (off : Nat) : apart none l off = oif (off < l.length) (some (l.getD off .any)) := nrfl rfl
theorem apart_s (n : Nat) (l : List AV) (off : Nat) : apart (some n) l off = oif (off + n ≤ l.length) (some (.agg ((l.drop off).take n))) := nrfl rfl
def aidxK (a : Option (Nat × Nat × Option Nat)) (x i : AV) : Option AV :=
  match a, x, i with
  | some (n, s, k), .agg l, .int _ i => oif (0 ≤ i ∧ i < n) (apart k l (i.toNat * s))
  | _, _, _ => none
theorem aidx_K (x i : AV) : aidx P t x i = aidxK (arr P t) x i := nrfl rfl
theorem aidxK_agg (n s : Nat) (q : Option Nat) (l : List AV) (k : IntKind) (i : Int) : aidxK (some (n, s, q)) (.agg l) (.int k i) = oif (0 ≤ i ∧ i < n) (apart q l (i.toNat * s)) := nrfl rfl

theorem ibound_n (d : Int) : ibound none d = some d := nrfl rfl
theorem ibound_s (k : IntKind) (n d : Int) : ibound (some (.int k n)) d = some n := nrfl rfl
def asliceK (e : Option (TypeId × Nat × Nat)) (x : AV) (lo hi mx : Option AV) : Option AV :=
  match e, mx with
  | some (_, s, _), none =>
    match x with
    | .sl n m f t =>
      match ibound lo 0, ibound hi n with
      | some l, some h => oif (0 ≤ l ∧ l ≤ h ∧ h ≤ n) (some (.sl (h - l).toNat (min ((h - l).toNat * s) (m - l.toNat * s)) (fun j => f (l.toNat * s + j)) (t && decide (h = n))))
      | _, _ => none
    | .osl id ver es off n =>
      match ibound lo 0, ibound hi n with
      | some l, some h => oif (0 ≤ l ∧ l ≤ h ∧ h ≤ n ∧ es = s) (some (.osl id ver es (off + l.toNat * s) (h - l).toNat))
      | _, _ => none
    | _ => none
  | some (_, s, _), some mx =>
    match x with
    | .sl n m f _ =>
      match ibound lo 0, ibound hi n, mx with
      | some l, some h, .int _ q => oif (0 ≤ l ∧ l ≤ h ∧ h ≤ n ∧ q = h) (some (.sl (h - l).toNat (min ((h - l).toNat * s) (m - l.toNat * s)) (fun j => f (l.toNat * s + j)) true))
      | _, _, _ => none
    | _ => none
  | _, _ => none
theorem aslice_K (x : AV) (lo hi mx : Option AV) : aslice P t x lo hi mx = asliceK (elm P t) x lo hi mx := nrfl rfl
def asliceS (s n m : Nat) (f : Nat → AV) (t : Bool) (a b : Option Int) : Option AV :=
  match a, b with
  | some l, some h => oif (0 ≤ l ∧ l ≤ h ∧ h ≤ n) (some (.sl (h - l).toNat (min ((h - l).toNat * s) (m - l.toNat * s)) (fun j => f (l.toNat * s + j)) (t && decide (h = n))))
  | _, _ => none
def asliceO (s id ver es off n : Nat) (a b : Option Int) : Option AV :=
  match a, b with
  | some l, some h => oif (0 ≤ l ∧ l ≤ h ∧ h ≤ n ∧ es = s) (some (.osl id ver es (off + l.toNat * s) (h - l).toNat))
  | _, _ => none
def asliceT (s n m : Nat) (f : Nat → AV) (a b : Option Int) (mx : AV) : Option AV :=
  match a, b, mx with
  | some l, some h, .int _ q => oif (0 ≤ l ∧ l ≤ h ∧ h ≤ n ∧ q = h) (some (.sl (h - l).toNat (min ((h - l).toNat * s) (m - l.toNat * s)) (fun j => f (l.toNat * s + j)) true))
  | _, _, _ => none
theorem asliceK_sl (e s b n m : Nat) (f : Nat → AV) (q : Bool) (lo hi : Option AV) : asliceK (some (e, s, b)) (.sl n m f q) lo hi none = asliceS s n m f q (ibound lo 0) (ibound hi n) := nrfl rfl
theorem asliceK_osl (e s b id ver es off n : Nat) (lo hi : Option AV) : asliceK (some (e, s, b)) (.osl id ver es off n) lo hi none = asliceO s id ver es off n (ibound lo 0) (ibound hi n) := nrfl rfl
theorem asliceK_sl3 (e s b n m : Nat) (f : Nat → AV) (q : Bool) (lo hi : Option AV) (mx : AV) : asliceK (some (e, s, b)) (.sl n m f q) lo hi (some mx) = asliceT s n m f (ibound lo 0) (ibound hi n) mx := nrfl rfl
theorem asliceS_s (s n m : Nat) (f : Nat → AV) (q : Bool) (l h : Int) : asliceS s n m f q (some l) (some h) = oif (0 ≤ l ∧ l ≤ h ∧ h ≤ n) (some (.sl (h - l).toNat (min ((h - l).toNat * s) (m - l.toNat * s)) (fun j => f (l.toNat * s + j)) (q && decide (h = n)))) := nrfl rfl
theorem asliceO_s (s id ver es off n : Nat) (l h : Int) : asliceO s id ver es off n (some l) (some h) = oif (0 ≤ l ∧ l ≤ h ∧ h ≤ n ∧ es = s) (some (.osl id ver es (off + l.toNat * s) (h - l).toNat)) := nrfl rfl
theorem asliceT_s (s n m : Nat) (f : Nat → AV) (l h : Int) (k : IntKind) (q : Int) : asliceT s n m f (some l) (some h) (.int k q) = oif (0 ≤ l ∧ l ≤ h ∧ h ≤ n ∧ q = h) (some (.sl (h - l).toNat (min ((h - l).toNat * s) (m - l.toNat * s)) (fun j => f (l.toNat * s + j)) true)) := nrfl rfl

theorem alen_sl (n m : Nat) (f : Nat → AV) (q : Bool) : alen P t (.sl n m f q) = oif ((elm P t).isSome = true) (some (.int .i64 n)) := nrfl rfl
theorem alen_osl (a b c d n : Nat) : alen P t (.osl a b c d n) = oif ((elm P t).isSome = true) (some (.int .i64 n)) := nrfl rfl
theorem acap_sl (n m : Nat) (f : Nat → AV) : acap P t (.sl n m f true) = oif ((elm P t).isSome = true) (some (.int .i64 n)) := nrfl rfl

def aconvK (a b : Option IntKind) (x : AV) : Option AV :=
  match a, b, x with
  | some _, some k, .int _ n => some (.int k (k.wrap n))
  | _, _, _ => none
theorem aconv_K (u : TypeId) (x : AV) : aconv P t u x = aconvK (ikd P t) (ikd P u) x := nrfl rfl
theorem aconvK_s (a k q : IntKind) (n : Int) : aconvK (some a) (some k) (.int q n) = some (.int k (k.wrap n)) := nrfl rfl

theorem newO_n (o : AO) : newO none h o = h ++ [o] := nrfl rfl
theorem newO_s (id : Nat) (o : AO) : newO (some id) h o = h.set id o := nrfl rfl
theorem place_n : place none h = h.length := nrfl rfl
theorem place_s (id : Nat) : place (some id) h = id := nrfl rfl
variable (nid : Option Nat)
def aallocK (z : Option (List AV)) (nid : Option Nat) (h : List AO) : Option (AV × List AO) :=
  match z with
  | some z => some (.ref (place nid h) 0 0, newO nid h (.row 0 z.length (ofL z)))
  | none => none
theorem aalloc_K : aalloc P nid t h = aallocK (zeroL P t) nid h := nrfl rfl
theorem aallocK_s (z : List AV) : aallocK (some z) nid h = some (.ref (place nid h) 0 0, newO nid h (.row 0 z.length (ofL z))) := nrfl rfl
theorem abox_E (v : AV) : abox nid v h = oif (v.cells.all AV.one = true) (some (.ref (place nid h) 0 0, newO nid h (.row 0 v.cells.length (ofL (v.cells.map AV.loose))))) := nrfl rfl
def amakeK (e : Option (TypeId × Nat × Nat)) (P : Program) (nid : Option Nat) (n m : Int) (h : List AO) : Option (AV × List AO) :=
  match e with
  | some (e, s, by_) =>
    match zeroL P e with
    | some z => oif (m = n ∧ 0 ≤ n ∧ by_ * n ≤ 140737488355328 ∧ n ≤ 9223372036854775807) (some (.osl (place nid h) 0 s 0 n.toNat, newO nid h (.row 0 (n.toNat * s) (zfun z))))
    | none => none
  | none => none
theorem amake_K (a b : IntKind) (n m : Int) : amake P nid t (.int a n) (.int b m) h = amakeK (elm P t) P nid n m h := nrfl (by
  unfold amake amakeK; cases elm P t <;> first | rfl | (rename_i x; obtain ⟨_, _, _⟩ := x; rfl))
def amakeZ (z : Option (List AV)) (s by_ : Nat) (nid : Option Nat) (n m : Int) (h : List AO) : Option (AV × List AO) :=
  match z with
  | some z => oif (m = n ∧ 0 ≤ n ∧ by_ * n ≤ 140737488355328 ∧ n ≤ 9223372036854775807) (some (.osl (place nid h) 0 s 0 n.toNat, newO nid h (.row 0 (n.toNat * s) (zfun z))))
  | none => none
theorem amakeK_s (e s b : Nat) (n m : Int) : amakeK (some (e, s, b)) P nid n m h = amakeZ (zeroL P e) s b nid n m h := nrfl rfl
theorem amakeZ_s (z : List AV) (s b : Nat) (n m : Int) : amakeZ (some z) s b nid n m h = oif (m = n ∧ 0 ≤ n ∧ b * n ≤ 140737488355328 ∧ n ≤ 9223372036854775807) (some (.osl (place nid h) 0 s 0 n.toNat, newO nid h (.row 0 (n.toNat * s) (zfun z)))) := nrfl rfl
def amkmapK (e : Option (TypeId × TypeId)) (P : Program) (nid : Option Nat) (h : List AO) : Option (AV × List AO) :=
  match e with
  | some (kt, _) => match ikd P kt with
    | some k => some (.mp (place nid h), newO nid h (.map k fun _ => none))
    | none => none
  | none => none
theorem amkmap_K : amkmap P nid t h = amkmapK (mapT P t) P nid h := nrfl rfl
def amkmapI (e : Option IntKind) (nid : Option Nat) (h : List AO) : Option (AV × List AO) :=
  match e with
  | some k => some (.mp (place nid h), newO nid h (.map k fun _ => none))
  | none => none
theorem amkmapK_s (a b : TypeId) : amkmapK (some (a, b)) P nid h = amkmapI (ikd P a) nid h := nrfl rfl
theorem amkmapI_s (k : IntKind) : amkmapI (some k) nid h = some (.mp (place nid h), newO nid h (.map k fun _ => none)) := nrfl rfl

def aupdateK (m : Option (TypeId × TypeId)) (P : Program) (id : Nat) (ik : IntKind) (n : Int) (a : AV) (h : List AO) : Option (List AO) :=
  match m with
  | some (kt, _) => match ikd P kt, h[id]? with
    | some _, some (.map k g) => oif (k = ik) (some (h.set id (.map k (updK g n a))))
    | _, _ => none
  | none => none
theorem aupdate_K (id : Nat) (ik : IntKind) (n : Int) (a : AV) : aupdate P t (.mp id) (.int ik n) a h = aupdateK (mapT P t) P id ik n a h := nrfl (by
  unfold aupdate aupdateK; cases mapT P t <;> rfl)
def aupdateI (e : Option IntKind) (id : Nat) (ik : IntKind) (n : Int) (a : AV) (h : List AO) (o : Option AO) : Option (List AO) :=
  match e, o with
  | some _, some (.map k g) => oif (k = ik) (some (h.set id (.map k (updK g n a))))
  | _, _ => none
theorem aupdateK_s (kt et : TypeId) (id : Nat) (ik : IntKind) (n : Int) (a : AV) : aupdateK (some (kt, et)) P id ik n a h = aupdateI (ikd P kt) id ik n a h h[id]? := nrfl rfl
theorem aupdateI_s (e : IntKind) (id : Nat) (ik : IntKind) (n : Int) (a : AV) (k : IntKind) (g : Int → Option AV) : aupdateI (some e) id ik n a h (some (.map k g)) = oif (k = ik) (some (h.set id (.map k (updK g n a)))) := nrfl rfl

def alkS (o : Option AV) (z : AV) (ok : Bool) : Option AV :=
  match o with
  | some a => some (if ok then .tup [a, .bool true] else a)
  | none => some (if ok then .tup [z, .bool false] else z)
def alookupK (m : Option (TypeId × TypeId)) (P : Program) (x : AV) (ik : IntKind) (n : Int) (ok : Bool) (h : List AO) : Option AV :=
  match m with
  | some (kt, et) =>
    match ikd P kt, zeroV P et with
    | some _, some z =>
      match x with
      | .nilmap => some (if ok then .tup [z, .bool false] else z)
      | .cmap k g => oif (k = ik) (match (g n).map cst0 with
          | some a => some (if ok then .tup [a, .bool true] else a)
          | none => some (if ok then .tup [z, .bool false] else z))
      | .mp id =>
        match h[id]? with
        | some (.map k g) => oif (k = ik) (match g n with
          | some a => some (if ok then .tup [a, .bool true] else a)
          | none => some (if ok then .tup [z, .bool false] else z))
        | _ => none
      | _ => none
    | _, _ => none
  | none => none
theorem alookup_K (x : AV) (ik : IntKind) (n : Int) (ok : Bool) : alookup P t x (.int ik n) ok h = alookupK (mapT P t) P x ik n ok h := nrfl (by
  unfold alookup alookupK; cases mapT P t <;> rfl)
def alookupI (e : Option IntKind) (z : Option AV) (x : AV) (ik : IntKind) (n : Int) (ok : Bool) (h : List AO) : Option AV :=
  match e, z with
  | some _, some z =>
    match x with
    | .nilmap => some (if ok then .tup [z, .bool false] else z)
    | .cmap k g => oif (k = ik) (alkS ((g n).map cst0) z ok)
    | .mp id =>
      match h[id]? with
      | some (.map k g) => oif (k = ik) (alkS (g n) z ok)
      | _ => none
    | _ => none
  | _, _ => none
theorem alookupK_s (kt et : TypeId) (x : AV) (ik : IntKind) (n : Int) (ok : Bool) : alookupK (some (kt, et)) P x ik n ok h = alookupI (ikd P kt) (zeroV P et) x ik n ok h := nrfl rfl
def alookupR (z : AV) (ik : IntKind) (n : Int) (ok : Bool) (o : Option AO) : Option AV :=
  match o with
  | some (.map k g) => oif (k = ik) (alkS (g n) z ok)
  | _ => none
theorem alookupI_nil (e : IntKind) (z : AV) (ik : IntKind) (n : Int) (ok : Bool) : alookupI (some e) (some z) .nilmap ik n ok h = alkS none z ok := nrfl rfl
theorem alookupI_cmap (e : IntKind) (z : AV) (k : IntKind) (g : Int → Option Value) (ik : IntKind) (n : Int) (ok : Bool) : alookupI (some e) (some z) (.cmap k g) ik n ok h = oif (k = ik) (alkS ((g n).map cst0) z ok) := nrfl rfl
theorem alookupI_mp (e : IntKind) (z : AV) (id : Nat) (ik : IntKind) (n : Int) (ok : Bool) : alookupI (some e) (some z) (.mp id) ik n ok h = alookupR z ik n ok h[id]? := nrfl rfl
theorem alookupR_s (z : AV) (ik : IntKind) (n : Int) (ok : Bool) (k : IntKind) (g : Int → Option AV) : alookupR z ik n ok (some (.map k g)) = oif (k = ik) (alkS (g n) z ok) := nrfl rfl
theorem alkS_st (a z : AV) : alkS (some a) z true = some (.tup [a, .bool true]) := nrfl rfl
theorem alkS_sf (a z : AV) : alkS (some a) z false = some a := nrfl rfl
theorem alkS_nt (z : AV) : alkS none z true = some (.tup [z, .bool false]) := nrfl rfl
theorem alkS_nf (z : AV) : alkS none z false = some z := nrfl rfl

theorem asrc_sl (s n m : Nat) (g : Nat → AV) (q : Bool) : asrc s (.sl n m g q) h = oif (n * s ≤ m) (some (n, g)) := nrfl rfl
def asrcR (s ver es off n : Nat) (o : Option AO) : Option (Nat × (Nat → AV)) :=
  match o with
  | some (.row v m g) => oif (v = ver ∧ es = s ∧ off + n * s ≤ m) (some (n, fun j => g (off + j)))
  | some (.con v m g) => oif (v = ver ∧ es = s ∧ off + n * s ≤ m) (some (n, fun j => g (off + j)))
  | _ => none
theorem asrc_osl (s id ver es off n : Nat) : asrc s (.osl id ver es off n) h = asrcR s ver es off n h[id]? := nrfl rfl
theorem asrcR_row (s ver es off n v m : Nat) (g : Nat → AV) : asrcR s ver es off n (some (.row v m g)) = oif (v = ver ∧ es = s ∧ off + n * s ≤ m) (some (n, fun j => g (off + j))) := nrfl rfl
theorem asrcR_con (s ver es off n v m : Nat) (g : Nat → AV) : asrcR s ver es off n (some (.con v m g)) = oif (v = ver ∧ es = s ∧ off + n * s ≤ m) (some (n, fun j => g (off + j))) := nrfl rfl
/-! copies -/
def acopyE (e : Option (TypeId × Nat × Nat)) (x y : AV) (h : List AO) : Option (AV × List AO) :=
  match e with
  | none => none
  | some (_, s, _) =>
    match asrc s y h with
    | none => none
    | some (m, g) =>
      match x with
      | .osl id ver es off n =>
        match h[id]? with
        | some (.row v k f) => oif (v = ver ∧ es = s ∧ off + min m n * s ≤ k ∧ (∀ j, j < min m n * s → (g j).one = true))
            (some (.int .i64 ((min m n : Nat) : Int), h.set id (.row v k (copF off (min m n * s) f g))))
        | _ => none
      | _ => none
theorem acopy_K (x y : AV) : acopy P t x y h = acopyE (elm P t) x y h := nrfl rfl
def acopyS (o : Option (Nat × (Nat → AV))) (s : Nat) (x : AV) (h : List AO) : Option (AV × List AO) :=
  match o with
  | none => none
  | some (m, g) =>
    match x with
    | .osl id ver es off n =>
      match h[id]? with
      | some (.row v k f) => oif (v = ver ∧ es = s ∧ off + min m n * s ≤ k ∧ (∀ j, j < min m n * s → (g j).one = true))
          (some (.int .i64 ((min m n : Nat) : Int), h.set id (.row v k (copF off (min m n * s) f g))))
      | _ => none
    | _ => none
theorem acopyE_s (e s b : Nat) (x y : AV) : acopyE (some (e, s, b)) x y h = acopyS (asrc s y h) s x h := nrfl rfl
def acopyR (o : Option AO) (id ver es off n s m : Nat) (g : Nat → AV) (h : List AO) : Option (AV × List AO) :=
  match o with
  | some (.row v k f) => oif (v = ver ∧ es = s ∧ off + min m n * s ≤ k ∧ (∀ j, j < min m n * s → (g j).one = true))
          (some (.int .i64 ((min m n : Nat) : Int), h.set id (.row v k (copF off (min m n * s) f g))))
  | _ => none
theorem acopyS_osl (m s id ver es off n : Nat) (g : Nat → AV) : acopyS (some (m, g)) s (.osl id ver es off n) h = acopyR h[id]? id ver es off n s m g h := nrfl rfl
theorem acopyR_s (id ver es off n s m v k : Nat) (f g : Nat → AV) : acopyR (some (.row v k f)) id ver es off n s m g h =
  oif (v = ver ∧ es = s ∧ off + min m n * s ≤ k ∧ (∀ j, j < min m n * s → (g j).one = true))
          (some (.int .i64 ((min m n : Nat) : Int), h.set id (.row v k (copF off (min m n * s) f g)))) := nrfl rfl
def aappE (e : Option (TypeId × Nat × Nat)) (x y : AV) (h : List AO) : Option (AV × List AO) :=
  match e with
  | none => none
  | some (_, s, by_) =>
    match asrc s y h with
    | none => none
    | some (m, g) =>
      match x with
      | .osl id ver es off n =>
        match h[id]? with
        | some (.row v k f) => oif (v = ver ∧ es = s ∧ off = 0 ∧ n * s ≤ k ∧ (∀ j, j < m * s → (g j).one = true) ∧ (n + m) * by_ ≤ 140737488355328 ∧ n + m ≤ 9223372036854775807)
            (some (.osl id (v + 1) s 0 (n + m), h.set id (.row (v + 1) ((n + m) * s) (appF (n * s) f (m * s) g))))
        | _ => none
      | .sl n k f true => if m = 0 ∧ 0 < n then some (.sl n k f true, h) else oif (n * s ≤ k ∧ (n = 0 ∨ 0 < m) ∧ (∀ j, j < m * s → (g j).one = true) ∧ (n + m) * by_ ≤ 140737488355328 ∧ n + m ≤ 9223372036854775807)
            (some (.osl h.length 0 s 0 (n + m), h ++ [.row 0 ((n + m) * s) (appF (n * s) f (m * s) g)]))
      | _ => none
theorem aapp_K (x y : AV) : aappend P t x y h = aappE (elm P t) x y h := nrfl rfl
def aappS (o : Option (Nat × (Nat → AV))) (s by_ : Nat) (x : AV) (h : List AO) : Option (AV × List AO) :=
  match o with
  | none => none
  | some (m, g) =>
    match x with
    | .osl id ver es off n =>
      match h[id]? with
      | some (.row v k f) => oif (v = ver ∧ es = s ∧ off = 0 ∧ n * s ≤ k ∧ (∀ j, j < m * s → (g j).one = true) ∧ (n + m) * by_ ≤ 140737488355328 ∧ n + m ≤ 9223372036854775807)
          (some (.osl id (v + 1) s 0 (n + m), h.set id (.row (v + 1) ((n + m) * s) (appF (n * s) f (m * s) g))))
      | _ => none
    | .sl n k f true => if m = 0 ∧ 0 < n then some (.sl n k f true, h) else oif (n * s ≤ k ∧ (n = 0 ∨ 0 < m) ∧ (∀ j, j < m * s → (g j).one = true) ∧ (n + m) * by_ ≤ 140737488355328 ∧ n + m ≤ 9223372036854775807)
          (some (.osl h.length 0 s 0 (n + m), h ++ [.row 0 ((n + m) * s) (appF (n * s) f (m * s) g)]))
    | _ => none
theorem aappE_s (e s b : Nat) (x y : AV) : aappE (some (e, s, b)) x y h = aappS (asrc s y h) s b x h := nrfl rfl
def aappR (o : Option AO) (id ver es off n s by_ m : Nat) (g : Nat → AV) (h : List AO) : Option (AV × List AO) :=
  match o with
  | some (.row v k f) => oif (v = ver ∧ es = s ∧ off = 0 ∧ n * s ≤ k ∧ (∀ j, j < m * s → (g j).one = true) ∧ (n + m) * by_ ≤ 140737488355328 ∧ n + m ≤ 9223372036854775807)
          (some (.osl id (v + 1) s 0 (n + m), h.set id (.row (v + 1) ((n + m) * s) (appF (n * s) f (m * s) g))))
  | _ => none
theorem aappS_osl (m s b id ver es off n : Nat) (g : Nat → AV) : aappS (some (m, g)) s b (.osl id ver es off n) h = aappR h[id]? id ver es off n s b m g h := nrfl rfl
theorem aappS_sl (m s b n k : Nat) (f g : Nat → AV) : aappS (some (m, g)) s b (.sl n k f true) h =
  if m = 0 ∧ 0 < n then some (.sl n k f true, h) else oif (n * s ≤ k ∧ (n = 0 ∨ 0 < m) ∧ (∀ j, j < m * s → (g j).one = true) ∧ (n + m) * b ≤ 140737488355328 ∧ n + m ≤ 9223372036854775807)
          (some (.osl h.length 0 s 0 (n + m), h ++ [.row 0 ((n + m) * s) (appF (n * s) f (m * s) g)])) := nrfl rfl
theorem aappR_s (id ver es off n s b m v k : Nat) (f g : Nat → AV) : aappR (some (.row v k f)) id ver es off n s b m g h =
  oif (v = ver ∧ es = s ∧ off = 0 ∧ n * s ≤ k ∧ (∀ j, j < m * s → (g j).one = true) ∧ (n + m) * b ≤ 140737488355328 ∧ n + m ≤ 9223372036854775807)
          (some (.osl id (v + 1) s 0 (n + m), h.set id (.row (v + 1) ((n + m) * s) (appF (n * s) f (m * s) g)))) := nrfl rfl

theorem setL_n (l : List AV) (i : Nat) : setL l i [] = l := nrfl rfl
theorem setL_c (l : List AV) (i : Nat) (a : AV) (r : List AV) : setL l i (a :: r) = setL (l.set i a) (i + 1) r := nrfl rfl
theorem zrep_z (z : List AV) : zrep z 0 = [] := nrfl rfl
theorem zrep_s (z : List AV) (n : Nat) : zrep z (n + 1) = z ++ zrep z n := nrfl rfl
theorem aFill_n (pl : Nat → Option (Nat × Nat)) (l : List AV) : aFill pl l [] = some l := nrfl (by cases l <;> rfl)
def aFillK (o : Option (Nat × Nat)) (pl : Nat → Option (Nat × Nat)) (cells : List AV) (v : AV) (rest : List (Nat × AV)) : Option (List AV) :=
  match o with
  | some (off, size) => oif (v.cells.length = size ∧ off + size ≤ cells.length ∧ v.cells.all AV.one = true) (aFill pl (setL cells off (v.cells.map AV.loose)) rest)
  | none => none
theorem aFill_c (pl : Nat → Option (Nat × Nat)) (l : List AV) (i : Nat) (v : AV) (r : List (Nat × AV)) : aFill pl l ((i, v) :: r) = aFillK (pl i) pl l v r := nrfl (by cases l <;> rfl)
theorem aFillK_s (pl : Nat → Option (Nat × Nat)) (l : List AV) (v : AV) (r : List (Nat × AV)) (off size : Nat) : aFillK (some (off, size)) pl l v r =
  oif (v.cells.length = size ∧ off + size ≤ l.length ∧ v.cells.all AV.one = true) (aFill pl (setL l off (v.cells.map AV.loose)) r) := nrfl rfl
def abuildK (z : Option (List AV)) (P : Program) (t : TypeId) (parts : List (Nat × AV)) : Option AV :=
  match z with
  | some z => oif (bldOk P t = true) ((aFill (bldPl P t) z parts).map .agg)
  | none => none
theorem abuild_K (ps : List (Nat × AV)) : abuild P t ps = abuildK (zeroL P t) P t ps := nrfl rfl
theorem abuildK_s (z : List AV) (ps : List (Nat × AV)) : abuildK (some z) P t ps = oif (bldOk P t = true) ((aFill (bldPl P t) z ps).map .agg) := nrfl rfl
def abuildSK (e : Option (TypeId × Nat × Nat)) (P : Program) (n : Nat) (parts : List (Nat × AV)) : Option AV :=
  match e with
  | some (e, s, _) =>
    match zeroL P e with
    | some z => oif (n * s ≤ 2 ^ 24) ((aFill (fun i => some (i * s, s)) (zrep z n) parts).map fun l => .sl n (n * s) (ofL l) true)
    | none => none
  | none => none
theorem abuildS_K (n : Nat) (ps : List (Nat × AV)) : abuildS P t n ps = abuildSK (elm P t) P n ps := nrfl rfl
def abuildSZ (z : Option (List AV)) (s n : Nat) (parts : List (Nat × AV)) : Option AV :=
  match z with
  | some z => oif (n * s ≤ 2 ^ 24) ((aFill (fun i => some (i * s, s)) (zrep z n) parts).map fun l => .sl n (n * s) (ofL l) true)
  | none => none
theorem abuildSK_s (e s b n : Nat) (ps : List (Nat × AV)) : abuildSK (some (e, s, b)) P n ps = abuildSZ (zeroL P e) s n ps := nrfl rfl
theorem abuildSZ_s (z : List AV) (s n : Nat) (ps : List (Nat × AV)) : abuildSZ (some z) s n ps = oif (n * s ≤ 2 ^ 24) ((aFill (fun i => some (i * s, s)) (zrep z n) ps).map fun l => .sl n (n * s) (ofL l) true) := nrfl rfl
def azappK (a : Option (TypeId × Nat × Nat)) (b : Option IntKind) (P : Program) (x y : AV) (h : List AO) : Option (AV × List AO) :=
  match a, b, x, y with
  | some (e, s, by_), some .i64, .sl 0 _ _ true, .int .i64 n =>
    match zeroL P e with
    | some z => oif (0 < n ∧ by_ * n ≤ 140737488355328 ∧ n ≤ 9223372036854775807) (some (.osl h.length 0 s 0 n.toNat, h ++ [.row 0 (n.toNat * s) (zfun z)]))
    | none => none
  | _, _, _, _ => none
theorem azapp_K (u : TypeId) (x y : AV) : azapp P t u x y h = azappK (elm P t) (ikd P u) P x y h := nrfl rfl
def azappZ (z : Option (List AV)) (s by_ : Nat) (n : Int) (h : List AO) : Option (AV × List AO) :=
  match z with
  | some z => oif (0 < n ∧ by_ * n ≤ 140737488355328 ∧ n ≤ 9223372036854775807) (some (.osl h.length 0 s 0 n.toNat, h ++ [.row 0 (n.toNat * s) (zfun z)]))
  | none => none
theorem azappK_s (e s b m : Nat) (f : Nat → AV) (n : Int) : azappK (some (e, s, b)) (some .i64) P (.sl 0 m f true) (.int .i64 n) h = azappZ (zeroL P e) s b n h := nrfl rfl
theorem azappZ_s (z : List AV) (s b : Nat) (n : Int) : azappZ (some z) s b n h = oif (0 < n ∧ b * n ≤ 140737488355328 ∧ n ≤ 9223372036854775807) (some (.osl h.length 0 s 0 n.toNat, h ++ [.row 0 (n.toNat * s) (zfun z)])) := nrfl rfl
end
theorem isPtr_ptr (m : Nat) (f : Nat → AV) (o : Nat) : (AV.ptr m f o).isPtr = true := nrfl rfl
theorem isPtr_ref (a b c : Nat) : (AV.ref a b c).isPtr = true := nrfl rfl
theorem isPtr_nil : AV.nil.isPtr = false := nrfl rfl
theorem ints_E (l : List Int) : ints l = .sl l.length l.length (slF I 0 l) false := nrfl rfl
theorem bools_E (l : List Bool) : bools l = .sl l.length l.length (slF AV.bool false l) false := nrfl rfl
theorem strAt_E (l : List Nat) (id i : Nat) : strAt l id i = (l.contains id && !l.contains (1000 * id + 1000 + i)) := nrfl rfl
theorem intss_E (l : List (List Int)) : intss l = .sl l.length l.length (slF ints [] l) false := nrfl rfl

/-! ### Which objects a value needs -/
theorem b_cons {α : Type} (P : α → Prop) (x : α) (l : List α) : (∀ a ∈ x :: l, P a) = (P x ∧ ∀ a ∈ l, P a) := by simp
theorem b_nil {α : Type} (P : α → Prop) : (∀ a ∈ ([] : List α), P a) = True := by simp
section
variable (m : Nat)
theorem b_any : Bel m .any = True := eq_true fun _ v _ => .any v
theorem b_int (k : IntKind) (n : Int) : Bel m (.int k n) = True := eq_true (bel_of_settled (settled_int k n))
theorem b_I (n : Int) : Bel m (I n) = True := eq_true (bel_of_settled (settled_I n))
theorem b_bool (b : Bool) : Bel m (.bool b) = True := eq_true (bel_of_settled (settled_bool b))
theorem b_str (b : ByteArray) : Bel m (.str b) = True := eq_true (bel_of_settled (settled_str b))
theorem b_niln : Bel m .nil = True := eq_true (bel_of_settled settled_nil)
theorem b_nilmap : Bel m .nilmap = True := eq_true (bel_of_settled settled_nilmap)
theorem b_nilfn : Bel m .nilfn = True := eq_true (bel_of_settled settled_nilfn)
theorem b_nilif : Bel m .nilif = True := eq_true (bel_of_settled settled_nilif)
theorem b_ref {id v o : Nat} (h : id < m) : Bel m (.ref id v o) = True := eq_true (bel_ref h)
theorem b_osl {id v e o n : Nat} (h : id < m) : Bel m (.osl id v e o n) = True := eq_true (bel_osl h)
theorem b_mp {id : Nat} (h : id < m) : Bel m (.mp id) = True := eq_true (bel_mp h)
theorem b_ints (l : List Int) : Bel m (ints l) = True := eq_true (bel_of_settled (settled_ints l))
theorem b_intss (l : List (List Int)) : Bel m (intss l) = True := eq_true (bel_of_settled (settled_intss l))
theorem b_bools (l : List Bool) : Bel m (bools l) = True := eq_true (bel_of_settled (settled_bools l))
theorem b_slI (n k : Nat) (l : List Int) (t : Bool) : Bel m (.sl n k (slF I 0 l) t) = True := eq_true (bel_of_settled (settled_sl fun _ _ => settled_I _))
theorem b_slIs (n k : Nat) (l : List (List Int)) (t : Bool) : Bel m (.sl n k (slF ints [] l) t) = True := eq_true (bel_of_settled (settled_sl fun _ _ => settled_ints _))
theorem b_slz (n : Nat) (f : Nat → AV) (t : Bool) : Bel m (.sl n 0 f t) = True := eq_true (bel_of_settled (settled_sl fun _ h => absurd h (Nat.not_lt_zero _)))
theorem b_agg {l : List AV} (h : ∀ a ∈ l, Bel m a) : Bel m (.agg l) = True := eq_true (bel_agg h)
theorem b_tup {l : List AV} (h : ∀ a ∈ l, Bel m a) : Bel m (.tup l) = True := eq_true (bel_tup h)
theorem b_fn {g : FuncId} {l : List AV} (h : ∀ a ∈ l, Bel m a) : Bel m (.fn g l) = True := eq_true (bel_fn h)
theorem bO_I (v n : Nat) (l : List Int) : belO m (.row v n (slF I 0 l)) = True := eq_true fun _ _ => bel_of_settled (settled_I _)
theorem bO_Is (v n : Nat) (l : List (List Int)) : belO m (.row v n (slF ints [] l)) = True := eq_true fun _ _ => bel_of_settled (settled_ints _)
theorem bel_ofL {l : List AV} (h : ∀ a ∈ l, Bel m a) (j : Nat) : Bel m (ofL l j) := by
  show Bel m (l.getD j .any)
  rw [List.getD_eq_getElem?_getD]
  by_cases hj : j < l.length
  · rw [List.getElem?_eq_getElem hj]; exact h _ (List.getElem_mem _)
  · rw [List.getElem?_eq_none (by omega)]; exact bel_of_settled settled_any
theorem bO_L {v n : Nat} {l : List AV} (h : ∀ a ∈ l, Bel m a) : belO m (.row v n (ofL l)) = True := eq_true fun j _ => bel_ofL m h j
theorem bO_c {v n : Nat} {a : AV} (h : Bel m a) : belO m (.row v n fun _ => a) = True := eq_true fun _ _ => h
theorem bO_coI (v n : Nat) (l : List Int) : belO m (.con v n (slF I 0 l)) = True := eq_true fun _ _ => bel_of_settled (settled_I _)
theorem bO_coL {v n : Nat} {l : List AV} (h : ∀ a ∈ l, Bel m a) : belO m (.con v n (ofL l)) = True := eq_true fun j _ => bel_ofL m h j
end
def wBel := And.intro @b_cons (And.intro @b_nil (And.intro @b_any (And.intro @b_int (And.intro @b_I (And.intro @b_bool (And.intro @b_str (And.intro @b_niln (And.intro @b_nilmap (And.intro @b_nilfn (And.intro @b_nilif (And.intro @b_ref (And.intro @b_osl (And.intro @b_mp (And.intro @b_ints (And.intro @b_intss (And.intro @b_bools (And.intro @b_slI (And.intro @b_slIs (And.intro @b_slz (And.intro @b_agg (And.intro @b_tup (And.intro @b_fn (And.intro @bO_I (And.intro @bO_Is (And.intro @bO_L (And.intro @bO_c (And.intro @bO_coI (@bO_coL))))))))))))))))))))))))))))
def wCore := And.intro @Nat.zero_add (And.intro @Nat.add_zero (And.intro @Nat.zero_lt_succ (And.intro @Nat.min_self (And.intro @Nat.zero_min (And.intro @Nat.min_zero (And.intro @Nat.sub_zero (And.intro @Nat.zero_mul (And.intro @Int.le_refl (And.intro @Nat.le_refl (And.intro @Nat.lt_irrefl (And.intro @Nat.mul_one (And.intro @Bool.false_eq_true (And.intro @Bool.true_eq_false (And.intro @decide_true (And.intro @decide_false (And.intro @decide_eq_true_eq (And.intro @decide_eq_false_iff_not (And.intro @Bool.not_true (And.intro @Bool.not_false (And.intro @Bool.not_eq_true' (And.intro @Bool.not_eq_false' (And.intro @Bool.and_true (And.intro @Bool.true_and (And.intro @Bool.false_and (And.intro @true_and (And.intro @and_true (And.intro @false_and (And.intro @and_false (And.intro @not_true_eq_false (And.intro @not_false_eq_true (And.intro @or_true (And.intro @true_or (And.intro @or_false (And.intro @false_or (And.intro @Bool.or_false (And.intro @Bool.or_true (And.intro @Bool.false_or (And.intro @Bool.true_or (And.intro @Int.natCast_nonneg (And.intro @Int.ofNat_lt (And.intro @Int.ofNat_le (And.intro @Int.ofNat_inj (@Int.ofNat_zero)))))))))))))))))))))))))))))))))))))))))))
def wFast := And.intro @Fgetd_s (And.intro @Fgetd_z (And.intro @Fset_s (And.intro @Fset_z (And.intro @Fmap_c (And.intro @Fmap_n (And.intro @Fall_c (And.intro @Fall_n (And.intro @Flen_c (And.intro @Flen_n (And.intro @Fapp_c (And.intro @Fapp_n (And.intro @Fapp_e (And.intro @Fget_s (And.intro @Fget_z (And.intro @Frep_s (And.intro @Frep_z (And.intro @Fcon_c (And.intro @Fcon_n (And.intro @Fogd_n (And.intro @Fogd_s (And.intro @Fomap_s (And.intro @Fomap_n (And.intro @Fois_s (And.intro @Ftn_z (And.intro @Ftn_o (And.intro @Ftn_c (And.intro @Fdrop_s (And.intro @Fdrop_z (And.intro @Ftake_s (And.intro @Ftake_z (And.intro @look_c (And.intro @look_n (And.intro @replT_c (And.intro @replT_n (And.intro @filtT_c (And.intro @filtT_n (And.intro @countL_c (And.intro @countL_n (And.intro @cls_move (And.intro @cls_assign (And.intro @cls_pick (And.intro @cls_nilCheck (And.intro @cls_bin (And.intro @cls_un (And.intro @cls_conv (And.intro @cls_fieldAddr (And.intro @cls_field (And.intro @cls_indexAddr (And.intro @cls_index (And.intro @cls_extract (And.intro @cls_slice (And.intro @cls_makeFunc (And.intro @cls_build (And.intro @cls_buildSlice (And.intro @cls_load (And.intro @cls_alloc (And.intro @cls_box (And.intro @cls_make (And.intro @cls_mkmap (And.intro @cls_store (And.intro @cls_lookup (And.intro @cls_update (And.intro @cls_insert (And.intro @cls_len (And.intro @cls_min (And.intro @cls_max (And.intro @cls_cap (And.intro @cls_append (And.intro @cls_copy (And.intro @acopy_K (And.intro @acopyE_s (And.intro @acopyS_osl (And.intro @acopyR_s (And.intro @cls_callT (And.intro @cls_callF (And.intro @rd_n (And.intro @rd_s (And.intro @cellsFrom_z (And.intro @cellsFrom_s (And.intro @updL_n (And.intro @updL_c (And.intro @aload_K (And.intro @aloadK_ptr (And.intro @aloadK_ref (And.intro @aloadR_row (And.intro @aloadR_con (And.intro @astore_ref (And.intro @astoreR_row (And.intro @aindex_K (And.intro @aindexK_sl (And.intro @aindexK_osl (And.intro @aindexK_none (And.intro @aindexA_ptr (And.intro @aindexA_ref (And.intro @afieldA_K (And.intro @afieldAK_ptr (And.intro @afieldAK_ref (And.intro @afield_K (And.intro @afieldK_agg (And.intro @apart_n (And.intro @apart_s (And.intro @aidx_K (And.intro @aidxK_agg (And.intro @ibound_n (And.intro @ibound_s (And.intro @aslice_K (And.intro @asliceK_sl (And.intro @asliceK_osl (And.intro @asliceK_sl3 (And.intro @asliceS_s (And.intro @asliceO_s (And.intro @asliceT_s (And.intro @alen_sl (And.intro @alen_osl (And.intro @acap_sl (And.intro @aconv_K (And.intro @aconvK_s (And.intro @newO_n (And.intro @newO_s (And.intro @place_n (And.intro @place_s (And.intro @aalloc_K (And.intro @aallocK_s (And.intro @abox_E (And.intro @amake_K (And.intro @amakeK_s (And.intro @amakeZ_s (And.intro @amkmap_K (And.intro @amkmapK_s (And.intro @amkmapI_s (And.intro @aupdate_K (And.intro @aupdateK_s (And.intro @aupdateI_s (And.intro @alookup_K (And.intro @alookupK_s (And.intro @alookupI_nil (And.intro @alookupI_cmap (And.intro @alookupI_mp (And.intro @alookupR_s (And.intro @alkS_st (And.intro @alkS_sf (And.intro @alkS_nt (And.intro @alkS_nf (And.intro @asrc_sl (And.intro @asrc_osl (And.intro @asrcR_row (And.intro @asrcR_con (And.intro @aapp_K (And.intro @aappE_s (And.intro @aappS_osl (And.intro @aappS_sl (And.intro @aappR_s (And.intro @setL_n (And.intro @setL_c (And.intro @zrep_z (And.intro @zrep_s (And.intro @aFill_n (And.intro @aFill_c (And.intro @aFillK_s (And.intro @abuild_K (And.intro @abuildK_s (And.intro @abuildS_K (And.intro @abuildSK_s (And.intro @abuildSZ_s (And.intro @azapp_K (And.intro @azappK_s (And.intro @azappZ_s (And.intro @isPtr_ptr (And.intro @isPtr_ref (And.intro @isPtr_nil (And.intro @ints_E (And.intro @bools_E (And.intro @strAt_E (@intss_E))))))))))))))))))))))))))))))))))))))))))))))))))))))))))))))))))))))))))))))))))))))))))))))))))))))))))))))))))))))))))))))))))))))))))))))))))))))))))))))))))))))))))))))
end
end Go.Ab
namespace Go.Ab
open Go Go.RowKit
noncomputable section

/-! ### The beginning of a round -/
theorem Marks.pokeLoop {c0 c : Ctx} {l : Nat} {r : Loop} (hk : Kept c l (.loop r)) (o : Obj) : ∀ {ds : List Deferred}, Marks c0 c ds → Marks c0 ⟨c.w.putObj l o, c.S, c.γ, c.H⟩ ds
  | [], _ => trivial
  | _ :: _, ⟨⟨D, e, h1, h2, h3⟩, h⟩ => ⟨⟨D, e, h1, h2.poke (fun e => by
      have := h2.1
      rw [e, hk.1] at this
      cases this) (putObj_same c.w l o), h3⟩, h.pokeLoop hk o⟩
theorem ext_pokeOwn {m : Nat} {c0 c : Ctx} {l : Nat} {o : Obj} (hx : ExtB m c0 c) (hl : owns c0 l) : ExtB m c0 ⟨c.w.putObj l o, c.S, c.γ, c.H⟩ :=
  ⟨fun id o hid ho => hx.hle id o hid ho, hx.smono, hx.snew, hx.onew, fun b hb hn => (putObj_same c.w l o b (fun e => hn (e ▸ hl))).trans (hx.same b hb hn), by rw [World.putObj_size]; exact hx.size, hx.os, hx.tape, hx.output⟩
theorem kept_put {c : Ctx} {l : Nat} {o o' : Obj} (h : Kept c l o) : Kept ⟨c.w.putObj l o', c.S, c.γ, c.H⟩ l o' := ⟨World.putObj_heap_same h.lt, h.2.1, h.2.2⟩

theorem run_begin {X : Env} {l : Nat} {r : Loop} {k : List Item} {s : AS} (hX : X.rnd = some (l, r)) (ht : X.tok = []) (hr : r.state = .ready) (h : Run { X with rnd := some (l, { r with state := .busy }) } k s) : Run X (.beginRound :: k) s := by
  intro hm ho hrn c0 c a ds hst hp b cs hf hk hb
  have hkp := hp.rnd l r hX
  have hb' : b.roundOf = some l := by rw [hb, hX]; rfl
  obtain ⟨v, fr, r', c', h1, h2, h3, h4, h5, h6, h7⟩ := h hm (fun i hi => ho i (List.mem_cons_of_mem _ hi)) (fun _ => hrn (by rw [hX]; rfl)) c0 ⟨c.w.putObj l (.loop { r with state := .busy }), c.S, c.γ, c.H⟩ a ds (hst.poke hkp.1)
    ⟨ext_pokeOwn hp.ext hkp.2, fun p hp' => absurd hp' (by show p ∉ X.tok; rw [ht]; exact List.not_mem_nil), fun l' r' e => by cases e; exact ⟨kept_put hkp.1, hkp.2⟩, hp.marks.pokeLoop hkp.1 _⟩ b cs hf hk hb'
  refine ⟨v, fr, r', c', .head (stepR_beginRound hb' (run_beginRound hkp.1.1 hr)) h1, ?_, h3, h4, h5, ?_, h7⟩
  · unfold Fin at h2 ⊢
    rw [hX]
    exact h2
  · intro l' r'' e
    rw [hX] at e
    cases e
    obtain ⟨st, pe, hq⟩ := h6 l _ rfl
    exact ⟨st, pe, hq⟩

/-! ### The contract of a round -/
def putPs (s : AS) : List Nat → List AV → AS
  | p :: ps, v :: vs => putPs (s.put p v) ps vs
  | _, _ => s
def envR (P : Program) (fn : Func) (str hcs : List Nat) (m l : Nat) (r : Loop) (H' : List AO) : Env := ⟨P, fn, 888888 :: str, hcs, m, some (l, r), [], fun _ H => H.take m = H'⟩
@[simp] theorem resX_R (P : Program) (fn : Func) (str hcs : List Nat) (m l : Nat) (r : Loop) (H' : List AO) (s : AS) : resX (envR P fn str hcs m l r H') s = some .any := rfl

/-- What a loop's record says of the statement that it belongs to. -/
structure LoopIs (P : Program) (fn : Func) (ps : Array Nat) (assign body : Code) (s : AS) (t : Tok) : Prop where
  st : t.r.state = .ready
  pe : t.r.pending = none
  fc : P.funcs[t.r.fn]? = some fn
  ps : t.r.params = ps
  as : t.r.assign = assign
  bd : t.r.body = body
  at' : ∃ a : Act, t.r.tmps = a.tmps ∧ St fn.ntmps t.ce a s
  ch : t.ce.H = s.h

theorem puts_st {N : Nat} {c : Ctx} : ∀ (ps : List Nat) (vs : List Value) (es : List AV) (a : Act) (s : AS), St N c a s → ps.length = es.length → vs.length = es.length → (∀ j, j < es.length → Rep c (vs.getD j undef) (es.getD j .any)) → (∀ p ∈ ps, p < N) →
    St N c { tmps := (ps.zip vs).foldl (fun t q => t.setIfInBounds q.1 q.2) a.tmps, defers := a.defers } (putPs s ps es)
  | [], vs, es, a, s, hst, _, _, _, _ => by simp only [List.zip_nil_left, List.foldl_nil]; exact hst
  | p :: ps, [], es, a, s, hst, h1, h2, _, _ => by simp at h1 h2; omega
  | p :: ps, v :: vs, [], a, s, hst, h1, h2, _, _ => by simp at h1
  | p :: ps, v :: vs, e :: es, a, s, hst, h1, h2, h3, h4 => by
    have hp := hst.putO (Ext.refl c) hst.hrel (d := some p) (x := v) (v := e) (by simpa using h3 0 (by simp)) (fun i hi => by cases hi; exact h4 p (by simp))
    have hs : ({ s with h := c.H } : AS) = s := by rw [hst.heap]
    rw [hs] at hp
    exact puts_st ps vs es (a.put (some p) v) (s.put p e) hp (by simpa using h1) (by simpa using h2) (fun j hj => by simpa using h3 (j + 1) (by simpa using hj)) (fun q hq => h4 q (by simp [hq]))

theorem zip_toList_foldl (ps : Array Nat) (vs : Array Value) (t : Array Value) : (ps.zip vs).foldl (fun t (q : Nat × Value) => t.setIfInBounds q.1 q.2) t = (ps.toList.zip vs.toList).foldl (fun t q => t.setIfInBounds q.1 q.2) t := by
  rw [← Array.foldl_toList, Array.toList_zip]

theorem yield_intro {P : Program} {fn : Func} {ps : Array Nat} {assign body : Code} {s : AS} {t : Tok} {str hcs : List Nat} {elt : List AV} {H H' : List AO} (hl : LoopIs P fn ps assign body s t) (hm : P.follows .mixedOrders = true)
    (hok : okCode fn.ntmps (888888 :: str) hcs assign = true) (hok2 : okCode fn.ntmps (888888 :: str) hcs body = true) (hps : elt.length = ps.size) (hpN : ∀ p ∈ ps.toList, p < fn.ntmps) (hO : ∀ o ∈ H', belO H.length o)
    (hrun : ∀ l r, r.state = .ready → Run (envR P fn str hcs H.length l r H') [.code assign, .beginRound, .code body] (putPs { s with h := H } ps.toList elt)) : YCall P t elt H (.bool true) H' := by
  rintro c vs rfl hr ⟨hkc, hext⟩ hv
  obtain ⟨a, hat, hst0⟩ := hl.at'
  have hsz : vs.size = t.r.params.size := by rw [hv.1, hps, hl.ps]
  refine ⟨t.r.fn, _, t.r.assign, t.r.body, run_yield hkc.1 hsz, trivial, fun cf cs _ => ?_⟩
  -- the state of the round
  have hst1 : St fn.ntmps c { tmps := a.tmps, defers := [] } { s with h := c.H } :=
    ⟨hst0.size, rfl, fun i => hext.rep hst0.hrel (hst0.slots i), rfl, hr⟩
  have hst2 := puts_st ps.toList vs.toList elt _ _ hst1 (by simp [hps]) (by simp [hv.1]) (fun j hj => by
    have := hv.2 j hj
    simpa [Array.getD_eq_getD_getElem?, List.getD_eq_getElem?_getD] using this) hpN
  rw [← zip_toList_foldl] at hst2
  obtain ⟨c0, hc0⟩ : ∃ c0 : Ctx, c0 = ⟨c.w, c.S, fun id => if id = c.H.length then some (t.l, 0) else c.γ id, c.H ++ [.map .i64 fun _ => none]⟩ := ⟨_, rfl⟩
  have hown : owns c0 t.l := ⟨c.H.length, .map .i64 fun _ => none, 0, by rw [hc0]; simp, rfl, by rw [hc0]; simp⟩
  have hownB : ∀ b, owns c0 b → owns c b ∨ b = t.l := by
    rintro b ⟨id, o, sz, ho, h1, h2⟩
    rw [hc0] at ho h2
    simp only at ho h2
    by_cases hid : id = c.H.length
    · rw [if_pos hid] at h2; cases h2; exact .inr rfl
    · rw [if_neg hid] at h2
      have hlt : id < c.H.length := by
        have := (List.getElem?_eq_some_iff.1 ho).1
        simp at this; omega
      rw [List.getElem?_append_left hlt] at ho
      exact .inl ⟨id, o, sz, ho, h1, h2⟩
  have hget0 : ∀ (id : Nat), id < c.H.length → c0.H[id]? = c.H[id]? ∧ c0.γ id = c.γ id := fun id hid => by
    rw [hc0]
    exact ⟨List.getElem?_append_left hid, by show (if id = c.H.length then _ else _) = _; rw [if_neg (by omega)]⟩
  have hx0 : ExtB c.H.length c0 c := by
    refine ⟨?_, fun b hb => by rw [hc0] at hb; exact hb, fun b hb => .inl (by rw [hc0]; exact hb), fun b hb => .inr ?_, fun b _ _ => by rw [hc0], by rw [hc0]; exact Nat.le_refl _, by rw [hc0], by rw [hc0], by rw [hc0]⟩
    · intro id o hid ho
      obtain ⟨e1, e2⟩ := hget0 id hid
      rw [e1] at ho
      have := HLe.refl c id o ho
      cases o <;> (first | trivial | exact this | (dsimp only at this ⊢; rw [e2]; exact this))
    · obtain ⟨id, o, sz, ho, h1, h2⟩ := hb
      have hlt := (List.getElem?_eq_some_iff.1 ho).1
      obtain ⟨e1, e2⟩ := hget0 id hlt
      exact ⟨id, o, sz, e1.trans ho, h1, e2.trans h2⟩
  let b : Frame := { (default : Frame) with fn := t.r.fn, kind := .normal, roundOf := some t.l }
  have hb0 : ∀ tm : Array Value, Frame.round t.l t.r.fn tm t.r.assign t.r.body .normal = b.atR { ({ tmps := tm, defers := [] } : Act) with defers := [] } [.code assign, .beginRound, .code body] := fun tm => by
    simp [Frame.round, Frame.atR, b, hl.as, hl.bd]
  obtain ⟨v, fr, r', c', h1, h2, h3, h4, h5, h6, h7⟩ := hrun t.l t.r hl.st hm (by
      intro i hi
      simp only [List.mem_cons, List.not_mem_nil, or_false] at hi
      rcases hi with rfl | rfl | rfl
      · exact hok
      · rfl
      · exact hok2) (fun _ => by simp [envR]) c0 c _ [] hst2 ⟨hx0, fun p hp => absurd hp List.not_mem_nil, fun l r e => by cases e; exact ⟨hkc, hown⟩, trivial⟩ b (cf :: cs) hl.fc rfl rfl
  obtain ⟨a', rfl⟩ : ∃ a' : Act, fr = b.atR { a' with defers := [] } [] := h2
  obtain ⟨st, pe, hke⟩ := h6 t.l t.r rfl
  have hend := run_endRound (P := P) none hke.1
  simp only [Option.isNone_none, if_true] at hend
  have erec : ({ t.r with state := .ready, pending := none } : Loop) = t.r := by
    conv => lhs; rw [← hl.st, ← hl.pe]
  rw [show ({ ({ t.r with state := st, pending := pe } : Loop) with state := .ready, pending := none } : Loop) = { t.r with state := .ready, pending := none } from rfl, erec] at hend
  have hback := stepR_round_end (P := P) (b := b) (a := { a' with defers := [] }) (cs := cs) (c := cf) rfl rfl hend
  obtain ⟨w4, hw4⟩ : ∃ w4, w4 = c'.w.putObj t.l (.loop t.r) := ⟨_, rfl⟩
  have hsame4 : ∀ b, b ≠ t.l → w4.heap[b]? = c'.w.heap[b]? := fun b hb => by rw [hw4]; exact putObj_same _ _ _ b hb
  have hto : c'.H.take c.H.length = H' := h7
  have hget' : ∀ (id : Nat), id < c.H.length → H'[id]? = c'.H[id]? := fun id hid => by rw [← hto, List.getElem?_take, if_pos hid]
  have hsub : ∀ (id : Nat) (o : AO), H'[id]? = some o → c'.H[id]? = some o ∧ id < c.H.length := fun id o ho => by
    rw [← hto, List.getElem?_take] at ho
    split at ho
    · exact ⟨ho, by assumption⟩
    · cases ho
  have hrel4 : HRel ⟨w4, c'.S, c'.γ, H'⟩ := by
    have h8 := hrel_take h4 c.H.length (by rw [hto]; exact hO)
    rw [hto] at h8
    exact hrel_poke (c := ⟨c'.w, c'.S, c'.γ, H'⟩) (l := t.l) h8 hke.2.1 (fun ⟨id, o, sz, ho, q1, q2⟩ => hke.2.2 ⟨id, o, sz, (hsub id o ho).1, q1, q2⟩) (by rw [hw4]; simp) (fun b hb _ => hsame4 b hb)
  refine ⟨.returned (.bool true), w4, ⟨.bool true, c'.S, c'.γ, rfl, .bool true, hrel4, ?_⟩, ?_⟩
  · refine ⟨?_, fun b hb => h5.smono b (by rw [hc0]; exact hb), fun b hb => ?_, fun b hb => ?_, fun b hb hn => ?_, ?_, ?_, ?_, ?_⟩
    · intro id o ho
      have hid := (List.getElem?_eq_some_iff.1 ho).1
      obtain ⟨e1, e2⟩ := hget0 id hid
      have hh := h5.hle id o hid (e1.trans ho)
      have e3 := hget' id hid
      have e4 : inf H' id = inf c'.H id := by unfold inf; rw [e3]
      cases o <;> simp only at hh ⊢ <;> (try rw [e2] at hh) <;> (try rw [e3]) <;> (try rw [e4]) <;> exact hh
    · rcases h5.snew b hb with q | q | q
      · exact .inl (by rw [hc0] at q; exact q)
      · exact .inr (.inl (by rw [hc0] at q; exact q))
      · rcases hownB b q with q | rfl
        · exact .inr (.inr q)
        · exact absurd hb hke.2.1
    · have hb' : owns c' b := by obtain ⟨id, o, sz, ho, q1, q2⟩ := hb; exact ⟨id, o, sz, (hsub id o ho).1, q1, q2⟩
      rcases h5.onew b hb' with q | q
      · exact .inl (by rw [hc0] at q; exact q)
      · rcases hownB b q with q | rfl
        · exact .inr q
        · exact absurd hb' hke.2.2
    · by_cases he : b = t.l
      · subst he
        show w4.heap[t.l]? = _
        rw [hkc.1, hw4]
        exact World.putObj_heap_same hke.lt
      · show w4.heap[b]? = _
        rw [hsame4 b he, h5.same b (by rw [hc0]; exact hb) (fun q => (hownB b q).elim hn he), hc0]
    · have := h5.size
      rw [hc0] at this
      show _ ≤ w4.heap.size
      rw [hw4, World.putObj_size]; exact this
    · have := h5.os; rw [hc0] at this; rw [hw4]; exact this
    · have := h5.tape; rw [hc0] at this; rw [hw4]; exact this
    · have := h5.output; rw [hc0] at this; rw [hw4]; exact this
  · show StepsIn _ _ _ _
    refine stepsIn_wide.2 ?_
    have e5 := hb0 ((t.r.params.zip vs).foldl (fun tmps (q : Nat × Value) => tmps.setIfInBounds q.1 q.2) t.r.tmps)
    rw [e5]
    rw [hl.ps, hat]
    refine Steps.trans h1 (.one ?_)
    rw [hw4]
    exact hback

theorem TokOk.cut {c : Ctx} {t : Tok} {H1 rest : List AO} (h : TokOk c t) (hH : c.H = H1 ++ rest) (hm : t.ce.H.length ≤ H1.length) : TokOk ⟨c.w, c.S, c.γ, H1⟩ t := by
  have own1 : ∀ b, owns ⟨c.w, c.S, c.γ, H1⟩ b → owns c b := fun b ⟨id, o, sz, ho, hown, hg⟩ => ⟨id, o, sz, by
    rw [hH, List.getElem?_append_left (List.getElem?_eq_some_iff.1 ho).1]; exact ho, hown, hg⟩
  refine ⟨⟨h.1.1, h.1.2.1, fun q => h.1.2.2 (own1 _ q)⟩, ⟨fun id o ho => ?_, h.2.smono, h.2.snew, fun b q => h.2.onew b (own1 b q), h.2.same, h.2.size, h.2.os, h.2.tape, h.2.output⟩⟩
  have hlt := (List.getElem?_eq_some_iff.1 ho).1
  have e3 : c.H[id]? = H1[id]? := by rw [hH, List.getElem?_append_left (by omega)]
  have e4 : inf c.H id = inf H1 id := by unfold inf; rw [e3]
  have hh := h.2.hle id o ho
  cases o <;> simp only at hh ⊢ <;> (try rw [e3] at hh) <;> (try rw [e4] at hh) <;> exact hh
theorem YCall.frame {P : Program} {t : Tok} {args : List AV} {H1 H1' : List AO} {v : AV} (h : YCall P t args H1 v H1') (hlen : H1'.length = H1.length) (hce : t.ce.H.length ≤ H1.length) (hb : ∀ a ∈ args, Bel H1.length a) (hO : ∀ o ∈ H1, belO H1.length o) (rest : List AO) :
    YCall P t args (H1 ++ rest) v (H1' ++ rest) := by
  intro c vs hH hr ht hv
  have htake : c.H.take H1.length = H1 := by rw [hH]; simp
  have hr1 : HRel ⟨c.w, c.S, c.γ, H1⟩ := by
    have := hrel_take hr H1.length (by rw [htake]; exact hO)
    rwa [htake] at this
  have hv1 : RepL ⟨c.w, c.S, c.γ, H1⟩ vs args := ⟨hv.1, fun j hj => by
    have hmem : args.getD j .any ∈ args := by rw [List.getD_eq_getElem?_getD, List.getElem?_eq_getElem hj]; exact List.getElem_mem _
    have := hb _ hmem c _ (hv.2 j hj)
    rwa [htake] at this⟩
  obtain ⟨f, tmps, assign, body, h1, h2⟩ := h ⟨c.w, c.S, c.γ, H1⟩ vs rfl hr1 (ht.cut hH hce) hv1
  refine ⟨f, tmps, assign, body, h1, h2.mono ?_⟩
  rintro e w' ⟨x, S', γ', rfl, hx, hr', hext⟩
  obtain ⟨γ2, k1, k2, k3⟩ := frame_core hH hr hlen hx hr' hext
  exact ⟨x, S', γ2, rfl, k1, k2, k3⟩

/-- A round, called by its iterator: it works on the first objects of the heap. -/
theorem call_yield {X : Env} {M : Md} {o : Oper} {t : Tok} {l : Nat} {args as' : List AV} {K : AS → Prop} {s : AS} {r : AV} {H1 H1' rest : List AO} (hb : M.hcall = true) (hl : t.l = l) (hmem : t ∈ X.tok) (h : YCall X.P t as' H1 r H1') (hs : s.h = H1 ++ rest) (hlen : H1'.length = H1.length) (hce : t.ce.H.length ≤ H1.length)
    (hbel : ∀ a ∈ as', Bel H1.length a) (hO : ∀ o ∈ H1, belO H1.length o) (hborn : ∀ o ∈ H1, o ≠ .unborn) (hborn' : ∀ o ∈ H1', o ≠ .unborn) (hcon : ConEq H1 H1') (ha : WeakL args as')
    (hK : K (({ s with h := H1' ++ rest } : AS).putO o.dst r)) : CallL X M o (.yld l) args K s := by
  subst hl
  have hdrop : s.h.drop H1.length = rest := by rw [hs]; simp
  have hat : ∀ id : Nat, s.h[id]? = some .unborn → ¬ id < H1.length := fun id hid hlt => by
    rw [hs, List.getElem?_append_left hlt] at hid
    exact hborn _ (List.mem_of_getElem? hid) rfl
  have hfirst : ∀ h2, Over s.h h2 → h2 = H1 ++ h2.drop H1.length := by
    intro h2 ho
    have : h2.take H1.length = H1 := by
      apply List.ext_getElem?
      intro i
      rw [List.getElem?_take]
      by_cases hi : i < H1.length
      · rw [if_pos hi, ho i (by rw [hs, List.getElem?_append_left hi]; intro e; exact hborn _ (List.mem_of_getElem? e) rfl), hs, List.getElem?_append_left hi]
      · rw [if_neg hi, List.getElem?_eq_none (by omega)]
    conv => lhs; rw [← List.take_append_drop H1.length h2, this]
  refine ⟨r, H1' ++ rest, ⟨.inr t.l, [], rfl, .inr (.inr ⟨hb, as', by rw [List.append_nil]; exact ha, fun h2 => H1' ++ h2.drop H1.length, fun h2 ho => ?_, by show H1' ++ s.h.drop H1.length = _; rw [hdrop], ?_, ?_, ?_⟩)⟩, hK⟩
  · have := h.frame hlen hce hbel hO (h2.drop H1.length)
    rw [← hfirst h2 ho] at this
    exact ⟨t, hmem, rfl, this⟩
  · intro id v n f
    rw [hs]
    by_cases hi : id < H1.length
    · rw [List.getElem?_append_left hi, List.getElem?_append_left (by omega)]; exact hcon id v n f
    · rw [List.getElem?_append_right (by omega), List.getElem?_append_right (by omega), hlen]
  · intro h2 id ob ho hid
    have hge := hat id hid
    show H1' ++ (h2.set id ob).drop H1.length = (H1' ++ h2.drop H1.length).set id ob
    rw [List.set_append_right _ _ (by omega), hlen, List.drop_set, if_neg (by omega)]
  · intro id hid
    have hge := hat id hid
    rw [hs] at hid
    rw [List.getElem?_append_right (by omega)] at hid ⊢
    rw [hlen]; exact hid

/-! ### The contract of an iterator -/
/-- The iterator works on the caller's heap, by the rounds that it calls. -/
def ICall (P : Program) (t : Tok) (f : FuncId) (args : List AV) (H H' : List AO) : Prop :=
  Enters P f ∧ ∀ (c : Ctx) (vs : Array Value), c.H = H → HRel c → TokOk c t → RepL c vs args → Calls P f vs c.w fun e w' => ∃ v S' γ', e = .returned v ∧ HRel ⟨w', S', γ', H'⟩ ∧ Ext c ⟨w', S', γ', H'⟩
def envI (P : Program) (fn : Func) (str hcs : List Nat) (t : Tok) (m : Nat) (H' : List AO) : Env := ⟨P, fn, str, hcs, m, none, [t], fun _ H => H.take m = H'⟩
@[simp] theorem resX_I (P : Program) (fn : Func) (str hcs : List Nat) (t : Tok) (m : Nat) (H' : List AO) (s : AS) : resX (envI P fn str hcs t m H') s = resV P fn s := rfl
theorem ICall.intro {P : Program} {f : FuncId} {fn : Func} {body : Code} (he : Enters P f) (hf : P.funcs[f]? = some fn) (hb : fn.body = some body) (hm : P.follows .mixedOrders = true) {args : List AV} {t : Tok} {H H' : List AO}
    (n0 : Nat) (hid str hcs : List Nat) (hok : okCode fn.ntmps str hcs body = true) (hlen : args.length ≤ fn.ntmps) (hce : t.ce.H.length ≤ H.length) (hO : ∀ o ∈ H', belO H.length o)
    (h : Run (envI P fn str hcs t H.length H') [.code body] (AS.start n0 hid args H)) : ICall P t f args H H' := by
  refine ⟨he, ?_⟩
  rintro c vs rfl hrc htk hv
  refine calls_of_run (X := envI P fn str hcs t c.H.length H') hf hb hm hok rfl hrc hv hlen h (fun p hp => ?_) ?_
  · obtain rfl : p = t := by simpa [envI] using hp
    exact ⟨htk, hce⟩
  rintro v r' ⟨w', S', γ', H''⟩ h1 h2 h3 h4
  have hH' : H''.take c.H.length = H' := h4
  have hst : St 0 ⟨w', S', γ', H''⟩ { tmps := #[], defers := [] } ⟨0, [], [], [], H''⟩ := ⟨rfl, rfl, fun i => .any _, rfl, h2⟩
  obtain ⟨c', hw, hx, hst'⟩ := sub_cut (b := c.H.length) (m := c.H.length) (s := ⟨0, [], [], [], H''⟩) (s' := ⟨0, [], [], [], H''.take c.H.length⟩) (Nat.le_refl _) rfl trivial trivial rfl (by simp) (by simp) (by rw [← hH'] at hO; exact hO) _ _ _ hst
  have hH := hst'.heap
  have hrel := hst'.hrel
  obtain ⟨w2, S2, γ2, H2⟩ := c'
  cases hw
  cases hH
  rw [← hH']
  exact ⟨v, S2, γ2, rfl, hrel, (h3.trans hx).toExt (Nat.le_refl _)⟩

/-! ### The statement -/
theorem St.ext {N : Nat} {c c' : Ctx} {a : Act} {s : AS} (h : St N c a s) (hx : Ext c c') (hr : HRel c') : St N c' a { s with h := c'.H } := ⟨h.size, h.defers, fun i => hx.rep h.hrel (h.slots i), rfl, hr⟩
theorem alloc_heap (w : World) (o : Obj) : ∀ b, b < w.heap.size → (w.alloc o).heap[b]? = w.heap[b]? := fun b hb => by
  show (w.heap.push o)[b]? = _
  rw [Array.getElem?_push_lt hb, Array.getElem?_eq_getElem hb]

theorem run_rangeFunc {X : Env} {f : Operand} {ps : Array Nat} {assign body : Code} {k : List Item} {s : AS} {gf : FuncId} {caps : List AV} {Hn : List AO} (hX : X.rnd = none) (htk : X.tok = []) (hf : s.ev f = .fn gf caps)
    (hit : ∀ t : Tok, LoopIs X.P X.fn ps assign body s t → ICall X.P t gf (.yld t.l :: caps) s.h Hn) (hk : Run X k { s with h := Hn }) : Run X (.code (.rangeFunc f ps assign body) :: k) s := by
  intro hm ho hrn c0 c a ds hst hp b cs hf' hk' hb
  have hb0 : b.roundOf = none := by rw [hb, hX]; rfl
  -- the record
  obtain ⟨rec, hrec⟩ : ∃ rec : Loop, rec = { state := .ready, pending := none, fn := b.fn, tmps := a.tmps, params := ps, assign := assign, body := body, defers := c.w.heap.size } := ⟨_, rfl⟩
  obtain ⟨w1, hw1⟩ : ∃ w1, w1 = (c.w.alloc (.deferred (some []))).alloc (.loop rec) := ⟨_, rfl⟩
  have he := run_enterLoop_outer (P := X.P) (w := c.w) b.fn a.tmps ps assign body
  rw [← hrec, ← hw1, ← hb0] at he
  have hD1 : w1.heap[c.w.heap.size]? = some (.deferred (some [])) := by
    rw [hw1, alloc_heap _ _ _ (by rw [World.size_alloc]; omega)]; exact World.alloc_heap_new _ _
  have hL1 : w1.heap[c.w.heap.size + 1]? = some (.loop rec) := by
    rw [hw1]; have := World.alloc_heap_new (c.w.alloc (.deferred (some []))) (.loop rec); rwa [World.size_alloc] at this
  have hold : ∀ q, q < c.w.heap.size → w1.heap[q]? = c.w.heap[q]? := fun q hq => by
    rw [hw1, alloc_heap _ _ _ (by rw [World.size_alloc]; omega), alloc_heap _ _ _ hq]
  have hsz : c.w.heap.size ≤ w1.heap.size := by rw [hw1, World.size_alloc, World.size_alloc]; omega
  have hx1 : Ext c ⟨w1, c.S, c.γ, c.H⟩ := ⟨HLe.refl c, fun _ h => h, fun _ h => .inl h, fun _ h => .inr h, fun q hq _ => hold q hq, hsz, by rw [hw1]; rfl, by rw [hw1]; rfl, by rw [hw1]; rfl⟩
  have hr1 : HRel ⟨w1, c.S, c.γ, c.H⟩ := hrel_poke (l := c.w.heap.size) hst.hrel (fun q => by have := hst.hrel.bound _ q; omega) (fun q => by have := hst.hrel.ownLt q; omega) hsz (fun q _ hq => hold q hq)
  have hst1 : St X.fn.ntmps ⟨w1, c.S, c.γ, c.H⟩ a s := by
    have := hst.ext hx1 hr1
    rwa [show ({ s with h := (⟨w1, c.S, c.γ, c.H⟩ : Ctx).H } : AS) = s by show ({ s with h := c.H } : AS) = s; rw [hst.heap]] at this
  have hkL : Kept ⟨w1, c.S, c.γ, c.H⟩ (c.w.heap.size + 1) (.loop rec) := ⟨hL1, fun q => by have := hst.hrel.bound _ q; omega, fun q => by have := hst.hrel.ownLt q; omega⟩
  have hkD : Kept ⟨w1, c.S, c.γ, c.H⟩ c.w.heap.size (.deferred (some [])) := ⟨hD1, fun q => by have := hst.hrel.bound _ q; omega, fun q => by have := hst.hrel.ownLt q; omega⟩
  obtain ⟨t, ht⟩ : ∃ t : Tok, t = ⟨c.w.heap.size + 1, rec, ⟨w1, c.S, c.γ, c.H⟩⟩ := ⟨_, rfl⟩
  have htl : t.l = c.w.heap.size + 1 := by rw [ht]
  have hLI : LoopIs X.P X.fn ps assign body s t := by
    rw [ht, hrec]
    exact ⟨rfl, rfl, hf', rfl, rfl, rfl, ⟨a, rfl, hrec ▸ hst1⟩, hst.heap⟩
  obtain ⟨hent, hcall⟩ := hit t hLI
  -- the call
  have hfv := hst.ev f
  rw [hf] at hfv
  obtain ⟨lb, hlb, hrl⟩ : ∃ lb : Array Value, a.eval f = .func (.func gf) #[] lb ∧ RepL c lb caps := by
    generalize a.eval f = q at hfv
    cases hfv with
    | fn _ vs _ h1 h2 => exact ⟨vs, rfl, h1, h2⟩
  have hres : (resolve a.eval (rangeCall f (c.w.heap.size + 1)) 0).run X.P w1 = .ok { target := .fn (.func gf) lb, args := #[.func (.yield (c.w.heap.size + 1)) #[] #[]] } w1 := by
    simp only [resolve, hlb]
    simp [go_sem]
  have hinv : (invoke (.fn (.func gf) lb) #[.func (.yield (c.w.heap.size + 1)) #[] #[]]).run X.P w1 = .ok (.enter gf (#[.func (.yield (c.w.heap.size + 1)) #[] #[]] ++ lb)) w1 := by
    simp [invoke, hent _ _]
  have henter := stepR_rangeFunc (P := X.P) (b := b) (a := { a with defers := ds }) (k := k) (cs := cs) (w := c.w) he hres hinv
  have hargs : RepL ⟨w1, c.S, c.γ, c.H⟩ (#[.func (.yield (c.w.heap.size + 1)) #[] #[]] ++ lb) (.yld t.l :: caps) := by
    have h1 : RepL ⟨w1, c.S, c.γ, c.H⟩ #[.func (.yield (c.w.heap.size + 1)) #[] #[]] [.yld t.l] := ⟨rfl, fun j hj => by
      obtain rfl : j = 0 := by simpa using hj
      rw [htl]; exact .yld _⟩
    have h2 : RepL ⟨w1, c.S, c.γ, c.H⟩ lb caps := ⟨hrl.1, fun j hj => hx1.rep hst.hrel (hrl.2 j hj)⟩
    exact repL_append h1 h2
  have htok : TokOk ⟨w1, c.S, c.γ, c.H⟩ t := by rw [ht]; exact ⟨hkL, Ext.refl _⟩
  obtain ⟨e, w3, fr, ⟨v, S', γ', rfl, hr3, hx3⟩, hsteps, hfn, hleave⟩ := hcall ⟨w1, c.S, c.γ, c.H⟩ _ hst.heap hr1 htok hargs (b.atR { a with defers := [mark c.w.heap.size] ++ ds } (.inRangeFunc (c.w.heap.size + 1) :: k) :: cs)
  have hkL3 := hkL.ext (hx3.toB 0)
  have hkD3 := hkD.ext (hx3.toB 0)
  have hend := run_endLoop (P := X.P) hkL3.1 (by rw [hrec]; simp)
  obtain ⟨rx, hrx⟩ : ∃ rx : Loop, rx = { rec with state := .exhausted } := ⟨_, rfl⟩
  rw [← hrx] at hend
  have hpend : rec.pending = none := by rw [hrec]
  rw [hpend] at hend
  have hback := step_leave_returned (c := b.atR { a with defers := [mark c.w.heap.size] ++ ds } (.inRangeFunc (c.w.heap.size + 1) :: k)) (cs := cs) hleave
  rw [finish_atR_inRangeFunc] at hback
  have hout := stepR_endRangeFunc (P := X.P) (b := b) (a := { a with defers := [mark c.w.heap.size] ++ ds }) (k := k) (cs := cs) hend
  -- behind the statement
  have hst3 : St X.fn.ntmps ⟨w3, S', γ', Hn⟩ a { s with h := Hn } := hst1.ext hx3 hr3
  have hst4 := hst3.poke (o' := .loop rx) hkL3
  have hxB : ExtB X.base c0 ⟨w3.putObj (c.w.heap.size + 1) (.loop rx), S', γ', Hn⟩ := by
    have h1 := (hp.ext.trans (hx1.toB _)).trans (hx3.toB _)
    have h2 := hp.ext.size
    exact ext_poke (c := ⟨w3, S', γ', Hn⟩) (l := c.w.heap.size + 1) h1 (by omega) (by simp) (putObj_same _ _ _) rfl rfl rfl
  have hmk : Marks c0 ⟨w3.putObj (c.w.heap.size + 1) (.loop rx), S', γ', Hn⟩ (mark c.w.heap.size :: ds) := by
    have hd : ∀ ds : List Deferred, Marks c0 c ds → mark c.w.heap.size ∉ ds := by
      intro ds
      induction ds with
      | nil => simp
      | cons d ds ih =>
        rintro ⟨⟨D, rfl, q1, q2, q3⟩, q⟩ hmem
        rcases List.mem_cons.1 hmem with e | e
        · have : c.w.heap.size = D := by injection e with e1; injection e1
          have := q2.lt
          omega
        · exact ih q e
    refine ⟨⟨_, rfl, hp.ext.size, hkD3.poke (by omega) (putObj_same _ _ _), hd ds hp.marks⟩, ?_⟩
    exact (((hp.marks.ext (hx1.toB 0)).ext (hx3.toB 0))).pokeLoop hkL3 _
  obtain ⟨v', fr', r', c', k1, k2⟩ := hk hm (ok_cons.1 ho).2 hrn c0 ⟨w3.putObj (c.w.heap.size + 1) (.loop rx), S', γ', Hn⟩ a (mark c.w.heap.size :: ds) hst4
    ⟨hxB, fun p hp' => absurd hp' (by rw [htk]; exact List.not_mem_nil), fun l r e => (by rw [hX] at e; cases e), hmk⟩ b cs hf' hk' hb
  refine ⟨v', fr', r', c', .head henter (Steps.trans (show Steps X.P _ _ from hsteps) (.head hback (.head hout k1))), ?_, k2.2⟩
  have := k2.1
  unfold Fin at this ⊢
  rw [hX] at this ⊢
  exact this

/-! ### Equations of the walk -/
section
variable (P : Program) (fn : Func) (str hcs : List Nat) (m l : Nat) (r : Loop) (t : Tok) (H : List AO)
theorem envI_P : (envI P fn str hcs t m H).P = P := nrfl rfl
theorem envI_fn : (envI P fn str hcs t m H).fn = fn := nrfl rfl
theorem envI_str : (envI P fn str hcs t m H).str = str := nrfl rfl
theorem envI_hcs : (envI P fn str hcs t m H).hcs = hcs := nrfl rfl
theorem envR_P : (envR P fn str hcs m l r H).P = P := nrfl rfl
theorem envR_fn : (envR P fn str hcs m l r H).fn = fn := nrfl rfl
theorem envR_str : (envR P fn str hcs m l r H).str = 888888 :: str := nrfl rfl
theorem envR_hcs : (envR P fn str hcs m l r H).hcs = hcs := nrfl rfl
end
theorem retI {P : Program} {fn : Func} {str hcs : List Nat} {t : Tok} {m : Nat} {H : List AO} {s : AS} (hr : fn.results = #[]) (h : s.h.take m = H) : RetOk (envI P fn str hcs t m H) s :=
  ⟨.tup [], by simp [resV, hr, resList, packR], h⟩
theorem retR {P : Program} {fn : Func} {str hcs : List Nat} {m l : Nat} {r : Loop} {H : List AO} {s : AS} (h : s.h.take m = H) : RetOk (envR P fn str hcs m l r H) s := ⟨.any, by simp, h⟩
theorem envR_begin {P : Program} {fn : Func} {str hcs : List Nat} {m l : Nat} {r : Loop} {H : List AO} {k : List Item} {s : AS} (hr : r.state = .ready) (h : Run (envR P fn str hcs m l { r with state := .busy } H) k s) : Run (envR P fn str hcs m l r H) (.beginRound :: k) s :=
  run_begin (X := envR P fn str hcs m l r H) rfl rfl hr h
theorem Nvc_rangeFunc (X : Env) (n : Nat) (f : Operand) (ps : Array Nat) (a b : Code) (k : List Item) (s : AS) : vc X (n + 1) (.code (.rangeFunc f ps a b) :: k) s = RunT X (.code (.rangeFunc f ps a b) :: k) .mk s := nrfl rfl
theorem Nvc_begin (X : Env) (n : Nat) (k : List Item) (s : AS) : vc X (n + 1) (.beginRound :: k) s = RunT X (.beginRound :: k) .mk s := nrfl rfl
set_option linter.defProp false
def wSeq := And.intro @Nvc_rangeFunc <| And.intro @Nvc_begin <| And.intro @envI_P (And.intro @envI_fn (And.intro @envI_str (And.intro @envI_hcs (And.intro @envR_P (And.intro @envR_fn (And.intro @envR_str @envR_hcs))))))
end
end Go.Ab
