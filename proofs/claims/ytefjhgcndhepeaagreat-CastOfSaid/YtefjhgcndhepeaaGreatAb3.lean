/- A layer of abstract values and heaps over the model; what is proved here is that its steps and contracts are sound, for every program. -/
import Derived.Test.YtefjhgcndhepeaaGreatAb2
set_option linter.unusedSimpArgs false
set_option linter.unusedVariables false
namespace Go.Ab
open Go Go.RowKit
noncomputable section

/-! ### Contracts out of walks -/
def envP (P : Program) (fn : Func) (str hcs : List Nat) (r : AV) : Env := ⟨P, fn, str, hcs, 0, none, [], fun v H => Sees H v r⟩
@[simp] theorem resX_P (P : Program) (fn : Func) (str hcs : List Nat) (r : AV) (s : AS) : resX (envP P fn str hcs r) s = resV P fn s := rfl
def AS.start (n0 : Nat) (hid : List Nat) (args : List AV) (H : List AO) : AS := ⟨n0, hid, args ++ List.replicate (n0 - args.length) .any, [], H⟩

theorem st_start {N n0 : Nat} {hid : List Nat} {args : List AV} {c : Ctx} {vs : Array Value} (hr : HRel c) (hv : RepL c vs args) (hlen : args.length ≤ N) :
    St N c { tmps := vs ++ Array.replicate (N - vs.size) undef, defers := [] } (AS.start n0 hid args c.H) := by
  refine ⟨by simp; have := hv.1; omega, rfl, fun i => ?_, rfl, hr⟩
  unfold AS.get AS.start
  simp only
  split
  · by_cases hi : i < args.length
    · have e1 : (args ++ List.replicate (n0 - args.length) AV.any).getD i .any = args.getD i .any := by
        simp [List.getD_eq_getElem?_getD, List.getElem?_append_left hi]
      have e2 : (vs ++ Array.replicate (N - vs.size) undef).getD i undef = vs.getD i undef := by
        simp [Array.getD_eq_getD_getElem?, Array.getElem?_append_left (show i < vs.size by rw [hv.1]; exact hi)]
      rw [e1, e2]; exact hv.2 i hi
    · have e1 : (args ++ List.replicate (n0 - args.length) AV.any).getD i .any = .any := by
        rw [List.getD_eq_getElem?_getD, List.getElem?_append_right (by omega), List.getElem?_replicate]
        split <;> rfl
      rw [e1]; exact .any _
  · exact .any _

theorem calls_of_run {X : Env} {f : FuncId} {body : Code} (hf : X.P.funcs[f]? = some X.fn) (hb : X.fn.body = some body) (hm : X.P.follows .mixedOrders = true) (hok : okCode X.fn.ntmps X.str X.hcs body = true) (hn : X.rnd = none)
    {c : Ctx} {vs : Array Value} {args : List AV} (hr : HRel c) (hv : RepL c vs args) (hlen : args.length ≤ X.fn.ntmps) {n0 : Nat} {hid : List Nat} (h : Run X [.code body] (AS.start n0 hid args c.H)) (htok : ∀ p ∈ X.tok, TokOk c p ∧ p.ce.H.length ≤ X.base)
    {R : Ending → World → Prop} (hR : ∀ v r c', Rep c' v r → HRel c' → ExtB X.base c c' → X.Q r c'.H → R (.returned v) c'.w) : Calls X.P f vs c.w R := by
  intro cs
  let b : Frame := { (default : Frame) with fn := f, kind := .normal, roundOf := none }
  have henter : Frame.enter X.P f vs .normal = b.atR { ({ tmps := vs ++ Array.replicate (X.fn.ntmps - vs.size) undef, defers := [] } : Act) with defers := [] } [.code body] := by
    simp [Frame.enter, Frame.atR, hf, hb, b]
  obtain ⟨v, fr, r, c', h1, h2, h4, h5, h6, h6', h7⟩ := h hm (by intro i hi; simp at hi; subst hi; exact hok) (by rw [hn]; simp) c c _ [] (st_start hr hv hlen) ⟨(Ext.refl c).toB _, htok, fun l r e => (by rw [hn] at e; cases e), trivial⟩ b cs hf rfl (by rw [hn]; rfl)
  rw [← henter] at h1
  unfold Fin at h2
  rw [hn] at h2
  exact ⟨.returned v, c'.w, fr, hR v r c' h4 h5 h6 h7, h1, h2.1, h2.2⟩

theorem PureCall.intro {P : Program} {f : FuncId} {fn : Func} {body : Code} (he : Enters P f) (hf : P.funcs[f]? = some fn) (hb : fn.body = some body) (hm : P.follows .mixedOrders = true) {args : List AV} {r : AV}
    (n0 : Nat) (hid str hcs : List Nat) (hok : okCode fn.ntmps str hcs body = true) (hlen : args.length ≤ fn.ntmps) (h : Run (envP P fn str hcs r) [.code body] (AS.start n0 hid args [])) : PureCall P f args r := by
  refine ⟨he, fun w S vs hS hv => ?_⟩
  refine calls_of_run (X := envP P fn str hcs r) (c := .bare w S) hf hb hm hok rfl (hrel_bare hS) hv hlen h (fun p hp => absurd hp (List.not_mem_nil)) ?_
  intro v r' c' h1 h2 h3 h4
  refine ⟨v, allS c', rfl, h4 c' v rfl h2 h1, fun b hb => hb.elim (h2.bound b) h2.ownLt, ?_⟩
  exact ⟨fun id o ho => by simp [Ctx.bare] at ho, fun b hb => .inl (h3.smono b hb), fun b hb => by
      rcases hb with hb | hb
      · exact h3.snew b hb
      · exact (h3.onew b hb).imp id id |>.elim (fun h => .inr (.inl h)) (fun h => absurd h owns_bare),
    fun b hb => absurd hb owns_bare, fun b hb hn => h3.same b hb hn, h3.size, h3.os, h3.tape, h3.output⟩

def envH (P : Program) (fn : Func) (str hcs : List Nat) (base : Nat) (r : AV) (H' : List AO) : Env := ⟨P, fn, str, hcs, base, none, [], fun v H => v = r ∧ H = H'⟩

@[simp] theorem resX_H (P : Program) (fn : Func) (str hcs : List Nat) (b : Nat) (r : AV) (H : List AO) (s : AS) : resX (envH P fn str hcs b r H) s = resV P fn s := rfl
theorem HCall.intro {P : Program} {f : FuncId} {fn : Func} {body : Code} (he : Enters P f) (hf : P.funcs[f]? = some fn) (hb : fn.body = some body) (hm : P.follows .mixedOrders = true) {args : List AV} {H H' : List AO} {r : AV}
    (n0 : Nat) (hid str hcs : List Nat) (hok : okCode fn.ntmps str hcs body = true) (hlen : args.length ≤ fn.ntmps) (h : Run (envH P fn str hcs H.length r H') [.code body] (AS.start n0 hid args H)) : HCall P f args H r H' := by
  refine ⟨he, ?_⟩
  rintro c vs rfl hr hv
  refine calls_of_run (X := envH P fn str hcs c.H.length r H') hf hb hm hok rfl hr hv hlen h (fun p hp => absurd hp (List.not_mem_nil)) ?_
  rintro v r' ⟨w', S', γ', H''⟩ h1 h2 h3 ⟨rfl, rfl⟩
  exact ⟨v, S', γ', rfl, h1, h2, h3.toExt (Nat.le_refl _)⟩

/-! ### Steps that run nothing -/
def subL : List AV → List AV → Prop
  | _, [] => True
  | a :: l, b :: l' => (b = .any ∨ a = b) ∧ subL l l'
  | [], b :: l' => b = .any ∧ subL [] l'
def subT (tm : List (Nat × AV)) : List (Nat × AV) → Prop
  | [] => True
  | (i, v) :: l => (v = .any ∨ look tm i = v) ∧ subT tm l

theorem subL_get : ∀ {l l' : List AV}, subL l l' → ∀ i, l'.getD i .any = .any ∨ l.getD i .any = l'.getD i .any
  | l, [], _, i => .inl (by simp)
  | a :: l, b :: l', h, 0 => by simpa using h.1
  | a :: l, b :: l', h, i + 1 => by simpa using subL_get h.2 i
  | [], b :: l', h, 0 => .inl (by simpa using h.1)
  | [], b :: l', h, i + 1 => by simpa using subL_get h.2 i
theorem subT_get {tm : List (Nat × AV)} : ∀ {l : List (Nat × AV)}, subT tm l → ∀ i, look l i = .any ∨ look tm i = look l i
  | [], _, i => .inl rfl
  | (j, v) :: l, h, i => by
    simp only [look]
    by_cases hi : i = j
    · subst hi; simpa using h.1
    · simp only [hi, if_false]; exact subT_get h.2 i

theorem sub_mk {m : Nat} {s s' : AS} (h1 : s'.n0 = s.n0) (h3 : subL s.sl s'.sl) (h4 : subT s.tm s'.tm) (h5 : s.h = s'.h) : Sub m s s' := by
  intro N c a hst
  refine ⟨c, rfl, (Ext.refl c).toB m, hst.size, hst.defers, fun i => ?_, by rw [← h5]; exact hst.heap, hst.hrel⟩
  have := hst.slots i
  unfold AS.get at this ⊢
  rw [h1]
  split
  · rename_i hi
    simp only [hi, if_true] at this
    rcases subL_get h3 i with e | e
    · rw [e]; exact .any _
    · rw [← e]; exact this
  · rename_i hi
    simp only [hi, if_false] at this
    rcases subT_get h4 i with e | e
    · rw [e]; exact .any _
    · rw [← e]; exact this

/-- The value is of the first m objects alone. -/
def Bel (m : Nat) (a : AV) : Prop := ∀ (c : Ctx) v, Rep c v a → Rep ⟨c.w, c.S, c.γ, c.H.take m⟩ v a
theorem bel_of_settled {m : Nat} {a : AV} (h : Settled a) : Bel m a := fun c v hv => rep_of_bare (h c v hv) _ _
theorem inf_take {H : List AO} {m id : Nat} (h : id < m) : inf (H.take m) id = inf H id := by simp [inf, List.getElem?_take, h]
theorem stale_take {H : List AO} {m id ver : Nat} (h : id < m) (hs : stale H id ver) : stale (H.take m) id ver := by
  rcases hs with ⟨v, hi, hlt⟩ | hd
  · exact .inl ⟨v, by rw [inf_take h]; exact hi, hlt⟩
  · exact .inr (by simp [h, hd])
theorem bel_osl {m id ver es off n : Nat} (h : id < m) : Bel m (.osl id ver es off n) := fun c v hv => by
  cases hv with
  | osl _ _ _ _ _ cap b sz hi hg hn hcap => exact .osl _ _ _ _ _ _ b sz (by rw [← inf_take h] at hi; exact hi) hg hn hcap
  | oslz _ _ _ _ a hi => exact .oslz _ _ _ _ _ (by rw [← inf_take h] at hi; exact hi)
  | oslOld _ _ _ _ _ a cap hn hs => exact .oslOld _ _ _ _ _ _ _ hn (stale_take h hs)
  | oslzOld _ _ _ _ a hs => exact .oslzOld _ _ _ _ _ (stale_take h hs)
theorem bel_ref {m id ver off : Nat} (h : id < m) : Bel m (.ref id ver off) := fun c v hv => by
  cases hv with
  | ref _ _ _ b sz hi hg => exact .ref _ _ _ b sz (by rw [← inf_take h] at hi; exact hi) hg
  | refOld _ _ _ a hs => exact .refOld _ _ _ _ (stale_take h hs)
theorem bel_mp {m id : Nat} (h : id < m) : Bel m (.mp id) := fun c v hv => by
  cases hv with
  | mp _ b sz k g hi hg => exact .mp _ b sz k g (by simp [h, hi]) hg
  | mpOld _ r hi => exact .mpOld _ _ (by simp [h, hi])
theorem bel_agg {m : Nat} {l : List AV} (hl : ∀ a ∈ l, Bel m a) : Bel m (.agg l) := fun c v hv => by
  cases hv with
  | agg vs _ hs hr => exact .agg vs l hs fun j hj => hl _ (by rw [List.getD_eq_getElem?_getD, List.getElem?_eq_getElem hj]; exact List.getElem_mem _) c _ (hr j hj)
theorem bel_tup {m : Nat} {l : List AV} (hl : ∀ a ∈ l, Bel m a) : Bel m (.tup l) := fun c v hv => by
  cases hv with
  | tup vs _ hs hr => exact .tup vs l hs fun j hj => hl _ (by rw [List.getD_eq_getElem?_getD, List.getElem?_eq_getElem hj]; exact List.getElem_mem _) c _ (hr j hj)
theorem bel_fn {m : Nat} {g : FuncId} {l : List AV} (hl : ∀ a ∈ l, Bel m a) : Bel m (.fn g l) := fun c v hv => by
  cases hv with
  | fn _ vs _ hs hr => exact .fn g vs l hs fun j hj => hl _ (by rw [List.getD_eq_getElem?_getD, List.getElem?_eq_getElem hj]; exact List.getElem_mem _) c _ (hr j hj)

def belO (m : Nat) : AO → Prop
  | .row _ n f => ∀ j, j < n → Bel m (f j)
  | .con _ n f => ∀ j, j < n → Bel m (f j)
  | .map _ g => ∀ n a, g n = some a → Bel m a
  | _ => True

/-- The objects from the m-th on are dropped. -/
theorem sub_cut {b m : Nat} {s s' : AS} (hbm : b ≤ m) (h1 : s'.n0 = s.n0) (h3 : subL s.sl s'.sl) (h4 : subT s.tm s'.tm) (h5 : s.h.take m = s'.h)
    (h6 : ∀ a ∈ s'.sl, Bel m a) (h7 : ∀ p ∈ s'.tm, Bel m p.2) (h8 : ∀ o ∈ s'.h, belO m o) : Sub b s s' := by
  intro N c a hst
  have hH : c.H = s.h := hst.heap
  have hget : ∀ (i : Nat) (o : AO), (c.H.take m)[i]? = some o → c.H[i]? = some o ∧ i < m := by
    intro i o ho
    rw [List.getElem?_take] at ho
    split at ho
    · exact ⟨ho, by assumption⟩
    · cases ho
  have hmem : ∀ (i : Nat) (o : AO), (c.H.take m)[i]? = some o → belO m o := fun i o ho => h8 o (by rw [← h5, ← hH]; exact List.mem_of_getElem? ho)
  refine ⟨⟨c.w, c.S, c.γ, c.H.take m⟩, rfl, ?_, hst.size, hst.defers, fun i => ?_, by rw [← h5, hH], ?_⟩
  · refine ⟨?_, fun _ h => h, fun _ h => .inl h, ?_, fun _ _ _ => rfl, Nat.le_refl _, rfl, rfl, rfl⟩
    · intro id o hlt ho
      have h0 : (c.H.take m)[id]? = some o := by rw [List.getElem?_take, if_pos (by omega)]; exact ho
      cases o with
      | unborn => trivial
      | dead => exact h0
      | row v _ _ => exact .inr ⟨v, by simp [inf, h0, AO.info], .inr ⟨rfl, rfl⟩⟩
      | con v _ _ => exact .inr ⟨v, by simp [inf, h0, AO.info], .inr ⟨rfl, rfl⟩⟩
      | map k g => exact .inr ⟨⟨k, g, h0⟩, rfl⟩
    · rintro x ⟨id, o, sz, ho, hown, hg⟩
      exact .inr ⟨id, o, sz, (hget id o ho).1, hown, hg⟩
  · have := hst.slots i
    unfold AS.get at this ⊢
    rw [h1]
    split
    · rename_i hi
      simp only [hi, if_true] at this
      have hb : Bel m (s'.sl.getD i .any) := by
        rw [List.getD_eq_getElem?_getD]
        cases hx : s'.sl[i]? with
        | none => exact fun _ v _ => .any v
        | some x => exact h6 _ (List.mem_of_getElem? hx)
      rcases subL_get h3 i with e | e
      · rw [e]; exact .any _
      · rw [e] at this; exact hb c _ this
    · rename_i hi
      simp only [hi, if_false] at this
      have hb : Bel m (look s'.tm i) := by
        have : ∀ l : List (Nat × AV), (∀ p ∈ l, Bel m p.2) → Bel m (look l i) := by
          intro l
          induction l with
          | nil => exact fun _ _ v _ => .any v
          | cons x l ih =>
            intro hl
            obtain ⟨j, v⟩ := x
            simp only [look]
            split
            · exact hl (j, v) (by simp)
            · exact ih fun p hp => hl p (by simp [hp])
        exact this _ h7
      rcases subT_get h4 i with e | e
      · rw [e]; exact .any _
      · rw [e] at this; exact hb c _ this
  · refine ⟨?_, ?_, ?_, ?_, hst.hrel.bound⟩
    · intro id v n f ho
      have hb := hmem _ _ ho
      rcases hst.hrel.row id v n f (hget _ _ ho).1 with h | ⟨b, sz, cs, el, g1, g2, g3, g4, g5, g6⟩
      · exact .inl h
      · exact .inr ⟨b, sz, cs, el, g1, g2, g3, g4, g5, fun j hj => hb j hj c _ (g6 j hj)⟩
    · intro id v n f ho
      have hb := hmem _ _ ho
      rcases hst.hrel.con id v n f (hget _ _ ho).1 with h | ⟨b, sz, cs, el, fr, g1, g2, g3, g4, g5, g6⟩
      · exact .inl h
      · exact .inr ⟨b, sz, cs, el, fr, g1, g2, g3, g4, g5, fun j hj => hb j hj c _ (g6 j hj)⟩
    · intro id k g ho
      have hb := hmem _ _ ho
      obtain ⟨b, sz, es, cl, g1, g2, g3, g4⟩ := hst.hrel.map id k g (hget _ _ ho).1
      exact ⟨b, sz, es, cl, g1, g2, g3, g4.keys, g4.uniq, fun n a hn => let ⟨e, he, hk, hr⟩ := g4.hit n a hn; ⟨e, he, hk, hb n a hn c _ hr⟩, g4.miss⟩
    · intro i i' o o' b sz sz' ho ho' g1 g2 hg hg'
      exact hst.hrel.inj _ _ _ _ _ _ _ (hget _ _ ho).1 (hget _ _ ho').1 g1 g2 hg hg'

/-! ### Loops -/
theorem run_loop {X : Env} {ι : Type} {body : Code} {k : List Item} {s : AS} (st : ι → AS) (inv : ι → Prop) (μ : ι → Nat) (i0 : ι) (h0 : inv i0) (hs : Sub X.base s (st i0))
    (round : ∀ i, inv i → (∀ j s', inv j → μ j < μ i → Sub X.base s' (st j) → Run X (.inLoop body :: k) s') → Run X (.code body :: .inLoop body :: k) (st i)) : Run X (.code (.loop body) :: k) s := by
  have key : ∀ n i, μ i = n → inv i → Run X (.code body :: .inLoop body :: k) (st i) := by
    intro n
    induction n using Nat.strongRecOn with
    | _ n ih =>
      intro i hn hi
      refine round i hi fun j s' hj hlt hsub => ?_
      exact run_inLoop ((ih (μ j) (by omega) j rfl hj).sub hsub)
  exact run_loop0 ((key _ i0 rfl h0).sub hs)

end
end Go.Ab
namespace Go.Ab
open Go Go.RowKit
noncomputable section

/-! ### Equations -/
section
variable (X : Env) (n : Nat) (k : List Item) (s : AS)
theorem vc_seq (a b : Code) : vc X (n+1) (.code (.seq a b) :: k) s = vc X n (.code a :: .code b :: k) s := nrfl rfl
theorem vc_skip : vc X (n+1) (.code .skip :: k) s = vc X n k s := nrfl rfl
theorem vc_label (l : Nat) : vc X (n+1) (.code (.label l) :: k) s = vc X n k s := nrfl rfl
theorem vc_block (i : Nat) (b : Code) : vc X (n+1) (.code (.block i b) :: k) s = vc X n (.code b :: .inBlock i :: k) s := nrfl rfl
theorem vc_scope (b : Code) : vc X (n+1) (.code (.scope b) :: k) s = vc X n (.code b :: .inScope b :: k) s := nrfl rfl
theorem vc_inBlock (i : Nat) : vc X (n+1) (.inBlock i :: k) s = vc X n k s := nrfl rfl
theorem vc_inScope (c : Code) : vc X (n+1) (.inScope c :: k) s = vc X n k s := nrfl rfl
theorem vc_ret : vc X (n+1) (.code .ret :: k) s = RetOk X s := nrfl rfl
theorem vc_nil : vc X (n+1) [] s = RetOk X s := nrfl rfl
theorem vc_loop (b : Code) : vc X (n+1) (.code (.loop b) :: k) s = RunL X (.code (.loop b) :: k) s := nrfl rfl
theorem vc_inLoop (b : Code) : vc X (n+1) (.inLoop b :: k) s = RunL X (.inLoop b :: k) s := nrfl rfl
theorem vc_exit (i : Nat) : vc X (n+1) (.code (.exit i) :: k) s = match exitTo i k with | some k' => vc X n k' s | none => False := rfl
theorem vc_cond (o : Operand) (a b : Code) : vc X (n+1) (.code (.cond o a b) :: k) s = match s.ev o with
  | .bool t => (t = true → vc X n (.code a :: k) s) ∧ (t = false → vc X n (.code b :: k) s)
  | .abool => vc X n (.code a :: k) s ∧ vc X n (.code b :: k) s
  | _ => False := rfl
theorem vc_region (id : Nat) (ops : Array Oper) : vc X (n+1) (.code (.region id ops false) :: k) s = vcOps X n ⟨ops, fun _ => false, true, none, 0, 0⟩ ops.toList k s.clr := rfl
theorem vc_draw (id : Nat) (ops : Array Oper) : vc X (n+1) (.code (.region id ops true) :: k) s =
  vcOps X n ⟨ops, strAt X.str id, X.hcs.contains id, some (s.frz (frzAt X.str id)).h.length, 0, (s.frz (frzAt X.str id)).h.length⟩ ops.toList k (drawS (X.hcs.contains id) ops (s.frz (frzAt X.str id))) := rfl

variable (all : Array Oper) (st : Nat → Bool) (hc : Bool) (bs : Option Nat) (i nx : Nat) (os : List Oper)
theorem vcOps_nil (M : Md) : vcOps X (n+1) M [] k s = vc X n k s := nrfl rfl
theorem vcOps_cons (M : Md) (d : Option Nat) (op : Op) (t : TypeId) (p : String) (af : Array Edge) : vcOps X (n+1) M (⟨d, op, t, p, af, none⟩ :: os) k s = vcOp X n M ⟨d, op, t, p, af, none⟩ os k s := rfl
theorem vcOps_guard (M : Md) (d : Option Nat) (op : Op) (t : TypeId) (p : String) (af : Array Edge) (j : Nat) (want : Bool) : vcOps X (n+1) M (⟨d, op, t, p, af, some (j, want)⟩ :: os) k s =
  match (M.all[j]?).bind (·.dst) with
  | some e => match s.get e with
    | .bool b => (b = true → if want = true then vcOp X n M ⟨d, op, t, p, af, some (j, want)⟩ os k (s.fix e (.bool true)) else vcOps X n (M.next ⟨d, op, t, p, af, some (j, want)⟩) os k ((s.fix e (.bool true)).putO d undefA)) ∧
                 (b = false → if want = false then vcOp X n M ⟨d, op, t, p, af, some (j, want)⟩ os k (s.fix e (.bool false)) else vcOps X n (M.next ⟨d, op, t, p, af, some (j, want)⟩) os k ((s.fix e (.bool false)).putO d undefA))
    | .tup [] => vcOps X n (M.next ⟨d, op, t, p, af, some (j, want)⟩) os k (s.putO d undefA)
    | _ => False
  | none => False := rfl
theorem next_none (o : Oper) : Md.next ⟨all, st, hc, none, i, nx⟩ o = ⟨all, st, hc, none, i + 1, nx⟩ := rfl
theorem next_some (b : Nat) (o : Oper) : Md.next ⟨all, st, hc, some b, i, nx⟩ o = ⟨all, st, hc, some b, i + 1, if cls hc o.op = 2 then nx + 1 else nx⟩ := rfl

theorem vcOp_call (M : Md) (d : Option Nat) (f : Operand) (args : Array Operand) (ts : Array TypeId) (t : TypeId) (p : String) (af : Array Edge) (g : Option (Nat × Bool)) :
  vcOp X (n+1) M ⟨d, .call { callee := .value f, args := args, argTypes := ts }, t, p, af, g⟩ os k s =
    CallL X M ⟨d, .call { callee := .value f, args := args, argTypes := ts }, t, p, af, g⟩ (s.ev f) (args.toList.map s.ev)
      (fun s' => vcOps X n (M.next ⟨d, .call { callee := .value f, args := args, argTypes := ts }, t, p, af, g⟩) os k s') s := rfl

/-- What is no call and makes no object. -/
theorem vcOp_plain (M : Md) (o : Oper) (h1 : callArgs o.op = none) (h2 : cls M.hcall o.op ≠ 2) :
  vcOp X (n+1) M o os k s = obind (aop X.P (M.strict M.i) none o.op s.ev s.h) fun r => vcOps X n (M.next o) os k (({ s with h := r.2 } : AS).putO o.dst r.1) := by
  unfold vcOp
  simp only [h1]
  cases M.base with
  | none => rfl
  | some b => simp only [h2, if_false]
theorem vcOp_new_none (o : Oper) (h1 : callArgs o.op = none) :
  vcOp X (n+1) ⟨all, st, hc, none, i, nx⟩ o os k s = obind (aop X.P (st i) none o.op s.ev s.h) fun r => vcOps X n ⟨all, st, hc, none, i + 1, nx⟩ os k (({ s with h := r.2 } : AS).putO o.dst r.1) := by
  unfold vcOp
  simp only [h1]
  rfl
theorem vcOp_new_some (b : Nat) (o : Oper) (h1 : callArgs o.op = none) (h2 : cls hc o.op = 2) :
  vcOp X (n+1) ⟨all, st, hc, some b, i, nx⟩ o os k s = (s.h[nx]? = some .unborn ∧ obind (aop X.P (st i) (some nx) o.op s.ev s.h) fun r => vcOps X n ⟨all, st, hc, some b, i + 1, nx + 1⟩ os k (({ s with h := r.2 } : AS).putO o.dst r.1)) := by
  unfold vcOp
  simp only [h1, h2, if_true, Md.next]
end

theorem obind_map {α β : Type} (f : α → β) (o : Option α) (K : β → Prop) : obind (o.map f) K = obind o (fun x => K (f x)) := by
  unfold obind
  cases o <;> simp

section
variable (X : Env) (n : Nat) (k : List Item) (s : AS) (all : Array Oper) (st : Nat → Bool) (hc : Bool) (bs : Option Nat) (i nx : Nat) (os : List Oper) (d : Option Nat) (t : TypeId) (p : String) (af : Array Edge) (g : Option (Nat × Bool))

theorem next_plain (M : Md) (o : Oper) (h2 : cls M.hcall o.op ≠ 2) : M.next o = { M with i := M.i + 1 } := by
  unfold Md.next
  cases M.base with
  | none => rfl
  | some b => simp [h2]
theorem vcOp_simple (o : Op) (v : AV) (h1 : callArgs o = none) (h2 : cls hc o ≠ 2) (h3 : aop X.P (st i) none o s.ev s.h = some (v, s.h)) :
  vcOp X (n+1) ⟨all, st, hc, bs, i, nx⟩ ⟨d, o, t, p, af, g⟩ os k s = vcOps X n ⟨all, st, hc, bs, i + 1, nx⟩ os k (s.putO d v) := by
  rw [vcOp_plain (h1 := h1) (h2 := h2), h3, obind_some, next_plain (h2 := h2)]
theorem vcOp_opt (o : Op) (q : Option AV) (h1 : callArgs o = none) (h2 : cls hc o ≠ 2) (h3 : aop X.P (st i) none o s.ev s.h = q.map fun v => (v, s.h)) :
  vcOp X (n+1) ⟨all, st, hc, bs, i, nx⟩ ⟨d, o, t, p, af, g⟩ os k s = obind q fun v => vcOps X n ⟨all, st, hc, bs, i + 1, nx⟩ os k (s.putO d v) := by
  rw [vcOp_plain (h1 := h1) (h2 := h2), h3, obind_map, next_plain (h2 := h2)]
theorem vcOp_heap (o : Op) (q : Option (List AO)) (h1 : callArgs o = none) (h2 : cls hc o ≠ 2) (h3 : aop X.P (st i) none o s.ev s.h = q.map fun h' => (undefA, h')) :
  vcOp X (n+1) ⟨all, st, hc, bs, i, nx⟩ ⟨d, o, t, p, af, g⟩ os k s = obind q fun h' => vcOps X n ⟨all, st, hc, bs, i + 1, nx⟩ os k (({ s with h := h' } : AS).putO d undefA) := by
  rw [vcOp_plain (h1 := h1) (h2 := h2), h3, obind_map, next_plain (h2 := h2)]

theorem op_move (x : Operand) : vcOp X (n+1) ⟨all, st, hc, bs, i, nx⟩ ⟨d, .move x, t, p, af, g⟩ os k s = vcOps X n ⟨all, st, hc, bs, i + 1, nx⟩ os k (s.putO d (s.ev x)) := vcOp_simple _ _ _ _ _ _ _ _ _ _ _ _ _ _ _ _ _ _ rfl (by simp [cls]) rfl
theorem op_assign (x : Operand) : vcOp X (n+1) ⟨all, st, hc, bs, i, nx⟩ ⟨d, .assign x, t, p, af, g⟩ os k s = vcOps X n ⟨all, st, hc, bs, i + 1, nx⟩ os k (s.putO d (s.ev x)) := vcOp_simple _ _ _ _ _ _ _ _ _ _ _ _ _ _ _ _ _ _ rfl (by simp [cls]) rfl
theorem op_load (u : TypeId) (x : Operand) : vcOp X (n+1) ⟨all, st, hc, bs, i, nx⟩ ⟨d, .load u x, t, p, af, g⟩ os k s = obind (aload X.P (st i) u (s.ev x) s.h) fun v => vcOps X n ⟨all, st, hc, bs, i + 1, nx⟩ os k (s.putO d v) := vcOp_opt _ _ _ _ _ _ _ _ _ _ _ _ _ _ _ _ _ _ rfl (by simp [cls]) rfl
theorem op_bin (o : BinOp) (u u' : TypeId) (x y : Operand) : vcOp X (n+1) ⟨all, st, hc, bs, i, nx⟩ ⟨d, .binOp o u x y u', t, p, af, g⟩ os k s = obind (abinC X.P o u y (s.ev x) (s.ev y)) fun v => vcOps X n ⟨all, st, hc, bs, i + 1, nx⟩ os k (s.putO d v) := vcOp_opt _ _ _ _ _ _ _ _ _ _ _ _ _ _ _ _ _ _ rfl (by simp [cls]) rfl
theorem op_un (o : UnOp) (u : TypeId) (x : Operand) : vcOp X (n+1) ⟨all, st, hc, bs, i, nx⟩ ⟨d, .unOp o u x, t, p, af, g⟩ os k s = obind (aun o (s.ev x)) fun v => vcOps X n ⟨all, st, hc, bs, i + 1, nx⟩ os k (s.putO d v) := vcOp_opt _ _ _ _ _ _ _ _ _ _ _ _ _ _ _ _ _ _ rfl (by simp [cls]) rfl
theorem op_conv (u u' : TypeId) (x : Operand) : vcOp X (n+1) ⟨all, st, hc, bs, i, nx⟩ ⟨d, .convert u u' x, t, p, af, g⟩ os k s = obind (aconv X.P u u' (s.ev x)) fun v => vcOps X n ⟨all, st, hc, bs, i + 1, nx⟩ os k (s.putO d v) := vcOp_opt _ _ _ _ _ _ _ _ _ _ _ _ _ _ _ _ _ _ rfl (by simp [cls]) rfl
theorem op_indexAddr (u : TypeId) (x y : Operand) : vcOp X (n+1) ⟨all, st, hc, bs, i, nx⟩ ⟨d, .indexAddr u x y, t, p, af, g⟩ os k s = obind (aindex X.P u (s.ev x) (s.ev y)) fun v => vcOps X n ⟨all, st, hc, bs, i + 1, nx⟩ os k (s.putO d v) := vcOp_opt _ _ _ _ _ _ _ _ _ _ _ _ _ _ _ _ _ _ rfl (by simp [cls]) rfl
theorem op_index (u : TypeId) (x y : Operand) : vcOp X (n+1) ⟨all, st, hc, bs, i, nx⟩ ⟨d, .index u x y, t, p, af, g⟩ os k s = obind (aidx X.P u (s.ev x) (s.ev y)) fun v => vcOps X n ⟨all, st, hc, bs, i + 1, nx⟩ os k (s.putO d v) := vcOp_opt _ _ _ _ _ _ _ _ _ _ _ _ _ _ _ _ _ _ rfl (by simp [cls]) rfl
theorem op_fieldAddr (u : TypeId) (x : Operand) (j : Nat) : vcOp X (n+1) ⟨all, st, hc, bs, i, nx⟩ ⟨d, .fieldAddr u x j, t, p, af, g⟩ os k s = obind (afieldA X.P u (s.ev x) j) fun v => vcOps X n ⟨all, st, hc, bs, i + 1, nx⟩ os k (s.putO d v) := vcOp_opt _ _ _ _ _ _ _ _ _ _ _ _ _ _ _ _ _ _ rfl (by simp [cls]) rfl
theorem op_field (u : TypeId) (x : Operand) (j : Nat) : vcOp X (n+1) ⟨all, st, hc, bs, i, nx⟩ ⟨d, .field u x j, t, p, af, g⟩ os k s = obind (afield X.P u (s.ev x) j) fun v => vcOps X n ⟨all, st, hc, bs, i + 1, nx⟩ os k (s.putO d v) := vcOp_opt _ _ _ _ _ _ _ _ _ _ _ _ _ _ _ _ _ _ rfl (by simp [cls]) rfl
theorem op_build (u : TypeId) (ps : Array (Nat × Operand)) : vcOp X (n+1) ⟨all, st, hc, bs, i, nx⟩ ⟨d, .build u ps, t, p, af, g⟩ os k s = obind (abuild X.P u (ps.toList.map fun q => (q.1, s.ev q.2))) fun v => vcOps X n ⟨all, st, hc, bs, i + 1, nx⟩ os k (s.putO d v) := vcOp_opt _ _ _ _ _ _ _ _ _ _ _ _ _ _ _ _ _ _ rfl (by simp [cls]) rfl
theorem op_buildSlice (u : TypeId) (m : Nat) (ps : Array (Nat × Operand)) : vcOp X (n+1) ⟨all, st, hc, bs, i, nx⟩ ⟨d, .buildSlice u m ps, t, p, af, g⟩ os k s = obind (abuildS X.P u m (ps.toList.map fun q => (q.1, s.ev q.2))) fun v => vcOps X n ⟨all, st, hc, bs, i + 1, nx⟩ os k (s.putO d v) := vcOp_opt _ _ _ _ _ _ _ _ _ _ _ _ _ _ _ _ _ _ rfl (by simp [cls]) rfl
theorem op_store (u : TypeId) (x y : Operand) : vcOp X (n+1) ⟨all, st, hc, bs, i, nx⟩ ⟨d, .store u x y, t, p, af, g⟩ os k s = obind (astore X.P u (s.ev x) (s.ev y) s.h) fun h' => vcOps X n ⟨all, st, hc, bs, i + 1, nx⟩ os k (({ s with h := h' } : AS).putO d undefA) := vcOp_heap _ _ _ _ _ _ _ _ _ _ _ _ _ _ _ _ _ _ rfl (by simp [cls]) rfl
theorem op_mapUpdate (u : TypeId) (x y z : Operand) : vcOp X (n+1) ⟨all, st, hc, bs, i, nx⟩ ⟨d, .mapUpdate u x y z, t, p, af, g⟩ os k s = obind (aupdate X.P u (s.ev x) (s.ev y) (s.ev z) s.h) fun h' => vcOps X n ⟨all, st, hc, bs, i + 1, nx⟩ os k (({ s with h := h' } : AS).putO d undefA) := vcOp_heap _ _ _ _ _ _ _ _ _ _ _ _ _ _ _ _ _ _ rfl (by simp [cls]) rfl
theorem op_insert (u : TypeId) (x y z : Operand) : vcOp X (n+1) ⟨all, st, hc, bs, i, nx⟩ ⟨d, .insert u x y z, t, p, af, g⟩ os k s = obind (aupdate X.P u (s.ev x) (s.ev y) (s.ev z) s.h) fun h' => vcOps X n ⟨all, st, hc, bs, i + 1, nx⟩ os k (({ s with h := h' } : AS).putO d undefA) := vcOp_heap _ _ _ _ _ _ _ _ _ _ _ _ _ _ _ _ _ _ rfl (by simp [cls]) rfl
theorem op_lookup (u : TypeId) (x y : Operand) (b : Bool) : vcOp X (n+1) ⟨all, st, hc, bs, i, nx⟩ ⟨d, .lookup u x y b, t, p, af, g⟩ os k s = obind (alookup X.P u (s.ev x) (s.ev y) b s.h) fun v => vcOps X n ⟨all, st, hc, bs, i + 1, nx⟩ os k (s.putO d v) := vcOp_opt _ _ _ _ _ _ _ _ _ _ _ _ _ _ _ _ _ _ rfl (by simp [cls]) rfl
theorem op_nilCheck (x : Operand) : vcOp X (n+1) ⟨all, st, hc, bs, i, nx⟩ ⟨d, .nilCheck x, t, p, af, g⟩ os k s = ((s.ev x).isPtr = true ∧ vcOps X n ⟨all, st, hc, bs, i + 1, nx⟩ os k (s.putO d (s.ev x))) := by
  rw [vcOp_plain (h1 := rfl) (h2 := by simp [cls]), next_plain (h2 := by simp [cls])]
  show obind (oif _ (some (s.ev x, s.h))) _ = _
  rw [obind_oif, obind_some]
theorem op_slice (u : TypeId) (x : Operand) (lo hi : Option Operand) : vcOp X (n+1) ⟨all, st, hc, bs, i, nx⟩ ⟨d, .slice u x lo hi none, t, p, af, g⟩ os k s =
    obind (aslice X.P u (s.ev x) (lo.map s.ev) (hi.map s.ev) none) fun v => vcOps X n ⟨all, st, hc, bs, i + 1, nx⟩ os k (s.putO d v) := by
  rw [vcOp_plain (h1 := rfl) (h2 := by simp [cls]), next_plain (h2 := by simp [cls])]
  show obind (oif _ (Option.map _ _)) _ = _
  rw [obind_oif, obind_map]
  simp
theorem op_slice3 (u : TypeId) (x : Operand) (lo : Option Operand) (hi mx : Operand) : vcOp X (n+1) ⟨all, st, hc, bs, i, nx⟩ ⟨d, .slice u x lo (some hi) (some mx), t, p, af, g⟩ os k s =
    obind (aslice X.P u (s.ev x) (lo.map s.ev) (some (s.ev hi)) (some (s.ev mx))) fun v => vcOps X n ⟨all, st, hc, bs, i + 1, nx⟩ os k (s.putO d v) := by
  rw [vcOp_plain (h1 := rfl) (h2 := by simp [cls]), next_plain (h2 := by simp [cls])]
  show obind (oif _ (Option.map _ _)) _ = _
  rw [obind_oif, obind_map]
  simp
theorem op_pick (x y z : Operand) : vcOp X (n+1) ⟨all, st, hc, bs, i, nx⟩ ⟨d, .pick x y z, t, p, af, g⟩ os k s = (match s.ev x with
    | .bool true => vcOps X n ⟨all, st, hc, bs, i + 1, nx⟩ os k (s.putO d (s.ev y))
    | .bool false => vcOps X n ⟨all, st, hc, bs, i + 1, nx⟩ os k (s.putO d (s.ev z))
    | _ => False) := by
  rw [vcOp_plain (h1 := rfl) (h2 := by simp [cls]), next_plain (h2 := by simp [cls])]
  simp only [aop]
  cases hx : s.ev x with
  | bool b => cases b <;> simp
  | _ => simp
theorem op_extract (x : Operand) (j : Nat) : vcOp X (n+1) ⟨all, st, hc, bs, i, nx⟩ ⟨d, .extract x j, t, p, af, g⟩ os k s = (match s.ev x with
    | .tup l => j < l.length ∧ vcOps X n ⟨all, st, hc, bs, i + 1, nx⟩ os k (s.putO d (l.getD j .any))
    | _ => False) := by
  rw [vcOp_plain (h1 := rfl) (h2 := by simp [cls]), next_plain (h2 := by simp [cls])]
  simp only [aop]
  cases hx : s.ev x <;> simp
theorem op_makeFunc (f : FuncId) (caps : Array Operand) : vcOp X (n+1) ⟨all, st, hc, bs, i, nx⟩ ⟨d, .makeFunc (.func f) #[] caps, t, p, af, g⟩ os k s = vcOps X n ⟨all, st, hc, bs, i + 1, nx⟩ os k (s.putO d (.fn f (caps.toList.map s.ev))) := by
  rw [vcOp_plain (h1 := rfl) (h2 := by simp [cls]), next_plain (h2 := by simp [cls])]
  show obind (oif _ _) _ = _
  rw [obind_oif, obind_some]
  simp
theorem op_len (x : Operand) (u : TypeId) : vcOp X (n+1) ⟨all, st, hc, bs, i, nx⟩ ⟨d, .call { callee := .builtin .len, args := #[x], argTypes := #[u] }, t, p, af, g⟩ os k s =
    obind (alen X.P u (s.ev x)) fun v => vcOps X n ⟨all, st, hc, bs, i + 1, nx⟩ os k (s.putO d v) := vcOp_opt _ _ _ _ _ _ _ _ _ _ _ _ _ _ _ _ _ _ rfl (by simp [cls]) rfl
theorem op_min (x y : Operand) (us : Array TypeId) : vcOp X (n+1) ⟨all, st, hc, bs, i, nx⟩ ⟨d, .call { callee := .builtin .min, args := #[x, y], argTypes := us }, t, p, af, g⟩ os k s =
    obind (amin (s.ev x) (s.ev y)) fun v => vcOps X n ⟨all, st, hc, bs, i + 1, nx⟩ os k (s.putO d v) := vcOp_opt _ _ _ _ _ _ _ _ _ _ _ _ _ _ _ _ _ _ rfl (by simp [cls]) rfl
theorem op_max (x y : Operand) (us : Array TypeId) : vcOp X (n+1) ⟨all, st, hc, bs, i, nx⟩ ⟨d, .call { callee := .builtin .max, args := #[x, y], argTypes := us }, t, p, af, g⟩ os k s =
    obind (amax (s.ev x) (s.ev y)) fun v => vcOps X n ⟨all, st, hc, bs, i + 1, nx⟩ os k (s.putO d v) := vcOp_opt _ _ _ _ _ _ _ _ _ _ _ _ _ _ _ _ _ _ rfl (by simp [cls]) rfl
theorem op_append (x y : Operand) (u : TypeId) : vcOp X (n+1) ⟨all, st, hc, bs, i, nx⟩ ⟨d, .call { callee := .builtin .append, args := #[x, y], argTypes := #[u, u] }, t, p, af, g⟩ os k s =
    obind (aappend X.P u (s.ev x) (s.ev y) s.h) fun r => vcOps X n ⟨all, st, hc, bs, i + 1, nx⟩ os k (({ s with h := r.2 } : AS).putO d r.1) := by
  rw [vcOp_plain (h1 := rfl) (h2 := by simp [cls]), next_plain (h2 := by simp [cls])]
  show obind (if u = u then _ else _) _ = _
  rw [if_pos rfl]
theorem op_copy (x y : Operand) (u u' : TypeId) : vcOp X (n+1) ⟨all, st, hc, bs, i, nx⟩ ⟨d, .call { callee := .builtin .copy, args := #[x, y], argTypes := #[u, u'] }, t, p, af, g⟩ os k s =
    obind (acopy X.P u (s.ev x) (s.ev y) s.h) fun r => vcOps X n ⟨all, st, hc, bs, i + 1, nx⟩ os k (({ s with h := r.2 } : AS).putO d r.1) := by
  rw [vcOp_plain (h1 := rfl) (h2 := by simp [cls]), next_plain (h2 := by simp [cls])]
  rfl
theorem op_appendZ (x y : Operand) (u u' : TypeId) (hne : u ≠ u') : vcOp X (n+1) ⟨all, st, hc, bs, i, nx⟩ ⟨d, .call { callee := .builtin .append, args := #[x, y], argTypes := #[u, u'] }, t, p, af, g⟩ os k s =
    obind (azapp X.P u u' (s.ev x) (s.ev y) s.h) fun r => vcOps X n ⟨all, st, hc, bs, i + 1, nx⟩ os k (({ s with h := r.2 } : AS).putO d r.1) := by
  rw [vcOp_plain (h1 := rfl) (h2 := by simp [cls]), next_plain (h2 := by simp [cls])]
  show obind (if u = u' then _ else _) _ = _
  rw [if_neg hne]
theorem op_cap (x : Operand) (u : TypeId) : vcOp X (n+1) ⟨all, st, hc, bs, i, nx⟩ ⟨d, .call { callee := .builtin .cap, args := #[x], argTypes := #[u] }, t, p, af, g⟩ os k s =
    obind (acap X.P u (s.ev x)) fun v => vcOps X n ⟨all, st, hc, bs, i + 1, nx⟩ os k (s.putO d v) := vcOp_opt _ _ _ _ _ _ _ _ _ _ _ _ _ _ _ _ _ _ rfl (by simp [cls]) rfl

-- what makes objects
theorem op_alloc (u : TypeId) : vcOp X (n+1) ⟨all, st, hc, none, i, nx⟩ ⟨d, .alloc u, t, p, af, g⟩ os k s =
    obind (aalloc X.P none u s.h) fun r => vcOps X n ⟨all, st, hc, none, i + 1, nx⟩ os k (({ s with h := r.2 } : AS).putO d r.1) := vcOp_new_none _ _ _ _ _ _ _ _ _ _ _ rfl
theorem op_box (u : TypeId) (x : Operand) : vcOp X (n+1) ⟨all, st, hc, none, i, nx⟩ ⟨d, .box u x, t, p, af, g⟩ os k s =
    obind (abox none (s.ev x) s.h) fun r => vcOps X n ⟨all, st, hc, none, i + 1, nx⟩ os k (({ s with h := r.2 } : AS).putO d r.1) := vcOp_new_none _ _ _ _ _ _ _ _ _ _ _ rfl
theorem op_make (u : TypeId) (x y : Operand) : vcOp X (n+1) ⟨all, st, hc, none, i, nx⟩ ⟨d, .makeSlice u x y, t, p, af, g⟩ os k s =
    obind (amake X.P none u (s.ev x) (s.ev y) s.h) fun r => vcOps X n ⟨all, st, hc, none, i + 1, nx⟩ os k (({ s with h := r.2 } : AS).putO d r.1) := vcOp_new_none _ _ _ _ _ _ _ _ _ _ _ rfl
theorem op_makeMap (u : TypeId) : vcOp X (n+1) ⟨all, st, hc, none, i, nx⟩ ⟨d, .makeMap u none, t, p, af, g⟩ os k s =
    obind (amkmap X.P none u s.h) fun r => vcOps X n ⟨all, st, hc, none, i + 1, nx⟩ os k (({ s with h := r.2 } : AS).putO d r.1) := vcOp_new_none _ _ _ _ _ _ _ _ _ _ _ rfl
variable (b : Nat)
theorem op_allocS (u : TypeId) : vcOp X (n+1) ⟨all, st, hc, some b, i, nx⟩ ⟨d, .alloc u, t, p, af, g⟩ os k s =
    (s.h[nx]? = some .unborn ∧ obind (aalloc X.P (some nx) u s.h) fun r => vcOps X n ⟨all, st, hc, some b, i + 1, nx + 1⟩ os k (({ s with h := r.2 } : AS).putO d r.1)) := vcOp_new_some _ _ _ _ _ _ _ _ _ _ _ _ rfl rfl
theorem op_boxS (u : TypeId) (x : Operand) : vcOp X (n+1) ⟨all, st, hc, some b, i, nx⟩ ⟨d, .box u x, t, p, af, g⟩ os k s =
    (s.h[nx]? = some .unborn ∧ obind (abox (some nx) (s.ev x) s.h) fun r => vcOps X n ⟨all, st, hc, some b, i + 1, nx + 1⟩ os k (({ s with h := r.2 } : AS).putO d r.1)) := vcOp_new_some _ _ _ _ _ _ _ _ _ _ _ _ rfl rfl
theorem op_makeS (u : TypeId) (x y : Operand) : vcOp X (n+1) ⟨all, st, hc, some b, i, nx⟩ ⟨d, .makeSlice u x y, t, p, af, g⟩ os k s =
    (s.h[nx]? = some .unborn ∧ obind (amake X.P (some nx) u (s.ev x) (s.ev y) s.h) fun r => vcOps X n ⟨all, st, hc, some b, i + 1, nx + 1⟩ os k (({ s with h := r.2 } : AS).putO d r.1)) := vcOp_new_some _ _ _ _ _ _ _ _ _ _ _ _ rfl rfl
theorem op_makeMapS (u : TypeId) : vcOp X (n+1) ⟨all, st, hc, some b, i, nx⟩ ⟨d, .makeMap u none, t, p, af, g⟩ os k s =
    (s.h[nx]? = some .unborn ∧ obind (amkmap X.P (some nx) u s.h) fun r => vcOps X n ⟨all, st, hc, some b, i + 1, nx + 1⟩ os k (({ s with h := r.2 } : AS).putO d r.1)) := vcOp_new_some _ _ _ _ _ _ _ _ _ _ _ _ rfl rfl
end

end
end Go.Ab
namespace Go.Ab
open Go Go.RowKit
noncomputable section

/-! ### Literal states -/
section
variable (n0 : Nat) (hid : List Nat) (sl : List AV) (tm : List (Nat × AV)) (h : List AO)
theorem ev_tmp (t : Nat) : AS.ev ⟨n0, hid, sl, tm, h⟩ (.tmp t) = if t < n0 then sl.getD t .any else look tm t := nrfl rfl
theorem ev_const (s : AS) (v : Value) : s.ev (.const v) = cst v := nrfl rfl
theorem ev_func (s : AS) (f : FuncId) : s.ev (.func f) = .fn f [] := nrfl rfl
theorem get_lit (t : Nat) : AS.get ⟨n0, hid, sl, tm, h⟩ t = if t < n0 then sl.getD t .any else look tm t := nrfl rfl
theorem putO_some (i : Nat) (v : AV) : AS.putO ⟨n0, hid, sl, tm, h⟩ (some i) v = if i < n0 then ⟨n0, hid, sl.set i v, tm, h⟩ else ⟨n0, hid, sl, (i, v) :: tm, h⟩ := nrfl rfl
theorem putO_none (s : AS) (v : AV) : s.putO none v = s := nrfl rfl
theorem fix_lit (i : Nat) (v : AV) : AS.fix ⟨n0, hid, sl, tm, h⟩ i v = if i < n0 then ⟨n0, hid, sl.set i v, tm, h⟩ else ⟨n0, hid, sl, replT tm i v, h⟩ := nrfl rfl
theorem clr_nil : AS.clr ⟨n0, [], sl, tm, h⟩ = ⟨n0, [], sl, [], h⟩ := by simp [AS.clr]
def filtT (hid : List Nat) : List (Nat × AV) → List (Nat × AV)
  | [] => []
  | (i, v) :: l => if hid.contains i = true then (i, v) :: filtT hid l else filtT hid l
theorem clr_hid (j : Nat) (hid' : List Nat) : AS.clr ⟨n0, j :: hid', sl, tm, h⟩ = ⟨n0, j :: hid', sl, filtT (j :: hid') tm, h⟩ := by
  unfold AS.clr
  congr 1
  show tm.filter (fun p => (j :: hid').contains p.1) = _
  induction tm with
  | nil => rfl
  | cons x l ih =>
    obtain ⟨i, v⟩ := x
    simp only [List.filter_cons, filtT, ih]
def countL (hcall : Bool) : List Oper → Nat
  | [] => 0
  | o :: os => (if cls hcall o.op = 2 then 1 else 0) + countL hcall os
theorem countN_eq (hcall : Bool) (ops : Array Oper) : countN hcall ops = countL hcall ops.toList := by
  unfold countN
  induction ops.toList with
  | nil => rfl
  | cons o os ih =>
    simp only [List.filter_cons, countL]
    by_cases hc : cls hcall o.op = 2
    · simp [hc, ih]; omega
    · simp [hc, ih]
theorem drawS_lit (hcall : Bool) (ops : Array Oper) : drawS hcall ops ⟨n0, hid, sl, tm, h⟩ =
    ⟨n0, hid, sl, (AS.clr ⟨n0, hid, sl, tm, h⟩).tm, h ++ List.replicate (countL hcall ops.toList) .unborn⟩ := by
  unfold drawS; rw [countN_eq]; rfl
end

theorem cst_int (k : IntKind) (n : Int) : cst (.int k n) = .int k n := nrfl rfl
theorem cst_bool (b : Bool) : cst (.bool b) = .bool b := nrfl rfl
theorem cst_str (s : ByteArray) : cst (.string s) = .str s := nrfl rfl
theorem cst_nil : cst (.pointer none) = .nil := nrfl rfl
theorem cst_sl : cst (.slice none 0 0) = .sl 0 0 (fun _ => .any) true := nrfl rfl
theorem cst_map : cst (.map none) = .nilmap := nrfl rfl
theorem cst_fn : cst .nilFunc = .nilfn := nrfl rfl

/-! ### Typed data -/
/-- A slice whose elements take one cell each. -/
def slF {α : Type} (e : α → AV) (d : α) (l : List α) : Nat → AV := fun j => e (l.getD j d)
def sl1 {α : Type} (e : α → AV) (d : α) (l : List α) : AV := .sl l.length l.length (slF e d l) false
def I (n : Int) : AV := .int .i64 n
def ints (l : List Int) : AV := sl1 I 0 l
def bools (l : List Bool) : AV := sl1 AV.bool false l
def intss (l : List (List Int)) : AV := sl1 ints [] l
/-- A slice whose elements take s cells each. -/
def slFs {α : Type} (e : α → List AV) (s : Nat) (d : α) (l : List α) : Nat → AV := fun j => (e (l.getD (j / s) d)).getD (j % s) .any
def sls {α : Type} (e : α → List AV) (s : Nat) (d : α) (l : List α) : AV := .sl l.length (l.length * s) (slFs e s d l) false

theorem slFs_at {α : Type} (e : α → List AV) (s : Nat) (d : α) (l : List α) (i j : Nat) (hj : j < s) : slFs e s d l (i * s + j) = (e (l.getD i d)).getD j .any := by
  unfold slFs
  rw [Nat.mul_comm, Nat.mul_add_div (by omega), Nat.mul_add_mod, Nat.div_eq_of_lt hj, Nat.mod_eq_of_lt hj, Nat.add_zero]
theorem slFs_at0 {α : Type} (e : α → List AV) (s : Nat) (d : α) (l : List α) (i : Nat) (hj : 0 < s) : slFs e s d l (i * s) = (e (l.getD i d)).getD 0 .any := by
  simpa using slFs_at e s d l i 0 hj

theorem slF_at {α : Type} (e : α → AV) (d : α) (l : List α) (j : Nat) : slF e d l j = e (l.getD j d) := nrfl rfl
theorem I_def (n : Int) : I n = .int .i64 n := nrfl rfl

theorem settled_I (n : Int) : Settled (I n) := settled_int _ _
theorem settled_sl1 {α : Type} {e : α → AV} {d : α} {l : List α} (h : ∀ a, Settled (e a)) : Settled (sl1 e d l) := settled_sl fun _ _ => h _
theorem settled_ints (l : List Int) : Settled (ints l) := settled_sl1 settled_I
theorem settled_bools (l : List Bool) : Settled (bools l) := settled_sl1 settled_bool
theorem settled_intss (l : List (List Int)) : Settled (intss l) := settled_sl1 settled_ints
theorem settled_cells {l : List AV} (hl : ∀ a ∈ l, Settled a) (j : Nat) : Settled (l.getD j .any) := by
  rw [List.getD_eq_getElem?_getD]
  cases hx : l[j]? with
  | none => exact settled_any
  | some x => exact hl _ (List.mem_of_getElem? hx)
theorem settled_sls {α : Type} {e : α → List AV} {s : Nat} {d : α} {l : List α} (h : ∀ a, ∀ x ∈ e a, Settled x) : Settled (sls e s d l) := settled_sl fun _ _ => settled_cells (h _) _

/-- What an object holds: 'appF' and 'upd' over typed data. -/
theorem appF_slF {α : Type} (e : α → AV) (d : α) (l m : List α) : appF (l.length * 1) (slF e d l) (m.length * 1) (slF e d m) = slF e d (l ++ m) := by
  funext j
  unfold appF slF
  simp only [Nat.mul_one, List.getD_eq_getElem?_getD]
  by_cases h1 : j < l.length
  · rw [if_pos h1, List.getElem?_append_left h1]
  · rw [if_neg h1, List.getElem?_append_right (by omega)]
    by_cases h2 : j < l.length + m.length
    · rw [if_pos h2]
    · rw [if_neg h2, List.getElem?_eq_none (by omega), List.getElem?_eq_none (by omega)]
theorem appF_one {α : Type} (e : α → AV) (d : α) (l : List α) (x : α) : appF (l.length * 1) (slF e d l) (1 * 1) (ofL [e x]) = slF e d (l ++ [x]) := by
  rw [← appF_slF e d l [x]]
  funext j
  unfold appF ofL slF
  simp only [List.length_cons, List.length_nil, Nat.mul_one, Nat.zero_add]
  by_cases h1 : j < l.length
  · rw [if_pos h1, if_pos h1]
  · by_cases h2 : j < l.length + 1
    · obtain rfl : j = l.length := by omega
      simp
    · rw [if_neg h1, if_neg h2, if_neg h1, if_neg h2]
theorem upd_slF {α : Type} (e : α → AV) (d : α) (l : List α) (i : Nat) (x : α) (h : i < l.length) : upd (slF e d l) i (e x) = slF e d (l.set i x) := by
  funext j
  unfold upd slF
  simp only [List.getD_eq_getElem?_getD]
  by_cases hj : j = i
  · subst hj; simp [h]
  · rw [if_neg hj, List.getElem?_set_ne (Ne.symm hj)]
theorem upd_ofL (l : List AV) (i : Nat) (a : AV) (h : i < l.length) : upd (ofL l) i a = ofL (l.set i a) := by
  funext j
  unfold upd ofL
  simp only [List.getD_eq_getElem?_getD]
  by_cases hj : j = i
  · subst hj; simp [h]
  · rw [if_neg hj, List.getElem?_set_ne (Ne.symm hj)]

/-! ### Contracts at calls -/
/-- A contract, its arguments settled. -/
structure Fn (P : Program) (f : FuncId) (args : List AV) (r : AV) : Prop where
  call : PureCall P f args r
  settled : ∀ a ∈ args, Settled a

theorem call_fn {X : Env} {M : Md} {o : Oper} {g : FuncId} {caps args as' : List AV} {K : AS → Prop} {s : AS} {r : AV} (h : Fn X.P g as' r) (ha : (args ++ caps).map AV.loose = as') (hK : K (s.putO o.dst r)) :
    CallL X M o (.fn g caps) args K s := by
  subst ha
  exact ⟨r, s.h, ⟨.inl g, caps, rfl, .inl ⟨_, weakL_loose _, h.call, h.settled, rfl⟩⟩, hK⟩
/-- The arguments are told by less. -/
theorem call_weak {X : Env} {M : Md} {o : Oper} {g : FuncId} {caps args as' : List AV} {K : AS → Prop} {s : AS} {r : AV} (h : Fn X.P g as' r) (ha : WeakL (args ++ caps) as') (hK : K (s.putO o.dst r)) :
    CallL X M o (.fn g caps) args K s :=
  ⟨r, s.h, ⟨.inl g, caps, rfl, .inl ⟨_, ha, h.call, h.settled, rfl⟩⟩, hK⟩
theorem weak_sl {n m m' : Nat} {f f' : Nat → AV} {t : Bool} (hm : m' ≤ m) (hf : ∀ j, j < m' → f j = f' j) : Weak (.sl n m f t) (.sl n m' f' false) := fun c v h => by
  cases h with
  | sl b base _ _ cap _ _ us hS hc hr hn ht => exact .sl b base n m' cap f' false us hS (fun j hj => hc j (by omega)) (fun j hj => by rw [← hf j hj]; exact hr j (by omega)) hn (by simp)
  | slz a cap _ _ ht =>
    obtain rfl : m' = 0 := by omega
    exact .slz _ _ _ _ (by simp)
theorem call_lent {X : Env} {M : Md} {o : Oper} {g : FuncId} {caps args as' : List AV} {K : AS → Prop} {s : AS} {r : AV} (h : Fn X.P g as' r) (hst : M.strict M.i = false) (ha : SeesL s.h ((args ++ caps).map AV.loose) as') (hf : Flat r) (hK : K (s.putO o.dst r)) :
    CallL X M o (.fn g caps) args K s :=
  ⟨r, s.h, ⟨.inl g, caps, rfl, .inr (.inl ⟨hst, as', ha, h.call, hf, rfl⟩)⟩, hK⟩
/-- A call that works on the heap, in a region that does not draw. -/
theorem call_heap {X : Env} {M : Md} {o : Oper} {g : FuncId} {caps args as' : List AV} {K : AS → Prop} {s : AS} {r : AV} {H' : List AO} (hb : M.hcall = true) (h : HCall X.P g as' s.h r H') (hcon : ConEq s.h H')
    (hu : ∀ id : Nat, s.h[id]? ≠ some .unborn) (ha : WeakL (args ++ caps) as') (hK : K (({ s with h := H' } : AS).putO o.dst r)) : CallL X M o (.fn g caps) args K s := by
  refine ⟨r, H', ⟨.inl g, caps, rfl, .inr (.inr ⟨hb, as', ha, fun _ => H', fun h2 ho => ?_, rfl, hcon, fun h2 id ob _ hid => absurd hid (hu id), fun id hid => absurd hid (hu id)⟩)⟩, hK⟩
  have : h2 = s.h := by
    apply List.ext_getElem?
    intro i
    exact ho i (hu i)
  rw [this]; exact h

theorem enters_of {P : Program} {f : FuncId} (h : ∀ (args : Array Value) (w : World), (callFunc f args).run P w = .ok (.enter f args) w) : Enters P f := h

/-- The whole frame of a contract's proof. -/
theorem Fn.intro {P : Program} {f : FuncId} {fn : Func} {body : Code} (he : Enters P f) (hf : P.funcs[f]? = some fn) (hb : fn.body = some body) (hm : P.follows .mixedOrders = true) {args : List AV} {r : AV}
    (n0 : Nat) (hid str hcs : List Nat) (hok : okCode fn.ntmps str hcs body = true) (hlen : args.length ≤ fn.ntmps) (hs : ∀ a ∈ args, Settled a)
    (h : Run (envP P fn str hcs r) [.code body] (AS.start n0 hid args [])) : Fn P f args r :=
  ⟨PureCall.intro he hf hb hm n0 hid str hcs hok hlen h, hs⟩

/-! ### An empty slice becomes an object -/
theorem get_put_rep {N : Nat} {c c' : Ctx} {a : Act} {s : AS} (hst : St N c a s) (hx : Ext c c') (hr : HRel c') {i : Nat} {v : AV} (hv : Rep c' (a.tmps.getD i undef) v) : St N c' a (({ s with h := c'.H } : AS).put i v) := by
  refine ⟨hst.size, hst.defers, fun j => ?_, by simp, hr⟩
  rcases get_put ({ s with h := c'.H } : AS) i j v with ⟨h1, h2⟩ | h1 | ⟨h1, h2⟩
  · rw [h1, h2]; exact hv
  · rw [h1]; exact .any _
  · rw [h2]; exact hx.rep hst.hrel (hst.slots j)

theorem sub_adopt {m : Nat} {s : AS} (i es : Nat) (f : Nat → AV) {M : Nat} {g : Nat → AV} (hi : s.get i = .sl 0 M g true) :
    Sub m s (({ s with h := s.h ++ [.row 0 0 f] } : AS).put i (.osl s.h.length 0 es 0 0)) := by
  intro N c a hst
  have hH := hst.heap
  have hset : (c.H ++ [AO.row 0 0 f])[c.H.length]? = some (.row 0 0 f) := by simp
  have hoth : ∀ i, i ≠ c.H.length → (c.H ++ [AO.row 0 0 f])[i]? = c.H[i]? := fun i hi => by
    have := newO_other (nid := none) (h := c.H) (o := .row 0 0 f) i (by simpa [place] using hi)
    simpa [newO] using this
  obtain ⟨g1, g2⟩ := upd_none hst.hrel (id := c.H.length) (ver := 0) (w := c.w) hset hoth rfl (.inl (by simp))
  refine ⟨⟨c.w, c.S, setG c.γ c.H.length none, c.H ++ [.row 0 0 f]⟩, rfl, g2.toB m, ?_⟩
  have hv := hst.slots i
  rw [hi] at hv
  have := get_put_rep hst g2 g1 (i := i) (v := .osl c.H.length 0 es 0 0) (by
    have hinf : inf (c.H ++ [AO.row 0 0 f]) c.H.length = some 0 := by simp [inf, AO.info]
    cases hq : a.tmps.getD i undef with
    | slice b n cap =>
      rw [hq] at hv
      cases hv with
      | sl _ _ _ _ _ _ _ _ _ _ _ _ ht => have := ht rfl; subst this; exact .oslz _ _ _ _ _ hinf
      | slz _ _ _ _ ht => have := ht rfl; subst this; exact .oslz _ _ _ _ _ hinf
    | _ => rw [hq] at hv; cases hv)
  simp only [hH] at this ⊢
  exact this

/-! ### An object is written no more -/

/-- A slice of a constant object is read as settled. -/
theorem sub_view {m : Nat} {s : AS} (i : Nat) {id ver es off n k M : Nat} {f : Nat → AV} (hi : s.get i = .osl id ver es off n) (ho : s.h[id]? = some (.con ver k f)) (hle : off + M ≤ k) (hM : n = 0 → M = 0) :
    Sub m s (s.put i (.sl n M (fun j => f (off + j)) false)) := by
  intro N c a hst
  have hH := hst.heap
  refine ⟨c, rfl, (Ext.refl c).toB m, ?_⟩
  rw [← hH] at ho
  have hinf : inf c.H id = some ver := by simp [inf, ho, AO.info]
  have hns : ¬ stale c.H id ver := by
    rintro (⟨v', hi, hlt⟩ | hd)
    · rw [hinf] at hi; cases hi; omega
    · simp [inf, hd, AO.info] at hinf
  have hv := hst.slots i
  rw [hi] at hv
  have hz : n = 0 → ∀ b cap, Rep c (.slice b 0 cap) (.sl n M (fun j => f (off + j)) false) := by
    rintro hn b cap
    rw [hn, hM hn]
    exact .slz _ _ _ _ (by simp)
  have := get_put_rep hst (Ext.refl c) hst.hrel (i := i) (v := .sl n M (fun j => f (off + j)) false) (by
    generalize a.tmps.getD i undef = q at hv
    cases hv with
    | osl _ _ _ _ _ cap b sz hi hg hn hcap =>
      rcases hst.hrel.con id ver k f ho with ⟨h1, _⟩ | ⟨b', sz', cs, el, fr, h1, h2, h3, h4, h5, h6⟩
      · rw [h1] at hg; cases hg
      · rw [h1] at hg; cases hg
        refine .sl b off n M cap _ false (fun j => cs.getD (off + j) undef) h5 (fun j hj => ?_) (fun j hj => h6 _ (by omega)) hn (by simp)
        have hlt : off + j < cs.size := by omega
        rw [cell_of_row c.w b _ cs el fr h2]
        simp [hlt, Array.getD]
    | oslz _ _ _ _ b hi => exact hz rfl b 0
    | oslOld _ _ _ _ _ b cap hn hs => exact absurd hs hns
    | oslzOld _ _ _ _ b hs => exact absurd hs hns)
  rwa [show ({ s with h := c.H } : AS) = s by rw [hH]] at this
/-- A pointer to a constant object is read as settled. -/
theorem sub_viewP {m : Nat} {s : AS} (i : Nat) {id ver off k : Nat} {f : Nat → AV} (hi : s.get i = .ref id ver off) (ho : s.h[id]? = some (.con ver k f)) (hk : 0 < k) :
    Sub m s (s.put i (.ptr k f off)) := by
  intro N c a hst
  have hH := hst.heap
  refine ⟨c, rfl, (Ext.refl c).toB m, ?_⟩
  rw [← hH] at ho
  have hinf : inf c.H id = some ver := by simp [inf, ho, AO.info]
  have hns : ¬ stale c.H id ver := by
    rintro (⟨v', hi, hlt⟩ | hd)
    · rw [hinf] at hi; cases hi; omega
    · simp [inf, hd, AO.info] at hinf
  have hv := hst.slots i
  rw [hi] at hv
  have := get_put_rep hst (Ext.refl c) hst.hrel (i := i) (v := .ptr k f off) (by
    generalize a.tmps.getD i undef = q at hv
    cases hv with
    | ref _ _ _ b sz hi hg =>
      rcases hst.hrel.con id ver k f ho with ⟨h1, h2⟩ | ⟨b', sz', cs, el, fr, h1, h2, h3, h4, h5, h6⟩
      · omega
      · rw [h1] at hg; cases hg
        have := Rep.ptr (c := c) b 0 k off f (fun j => cs.getD j undef) h5 (fun j hj => cells_of_row h2 (by omega) j hj) h6
        rwa [Nat.zero_add] at this
    | refOld _ _ _ b hs => exact absurd hs hns)
  rwa [show ({ s with h := c.H } : AS) = s by rw [hH]] at this

end
end Go.Ab
namespace Go.Ab
open Go Go.RowKit
noncomputable section

/-! ### What is looked into -/
@[congr] theorem obind_congr {α : Type} {o o' : Option α} {K : α → Prop} (h : o = o') : obind o K = obind o' K := by rw [h]
@[congr] theorem vc_congr {X : Env} {n : Nat} {k : List Item} {s s' : AS} (h : s = s') : vc X n k s = vc X n k s' := by rw [h]
@[congr] theorem vcOps_congr {X : Env} {n : Nat} {M : Md} {os : List Oper} {k : List Item} {s s' : AS} (h : s = s') : vcOps X n M os k s = vcOps X n M os k s' := by rw [h]
@[congr] theorem vcOp_congr {X : Env} {n : Nat} {M : Md} {o : Oper} {os : List Oper} {k : List Item} {s s' : AS} (h : s = s') : vcOp X n M o os k s = vcOp X n M o os k s' := by rw [h]
@[congr] theorem runL_congr {X : Env} {k : List Item} {s s' : AS} (h : s = s') : RunL X k s = RunL X k s' := by rw [h]
@[congr] theorem run_congr {X : Env} {k : List Item} {s s' : AS} (h : s = s') : Run X k s = Run X k s' := by rw [h]
@[congr] theorem retOk_congr {X : Env} {s s' : AS} (h : s = s') : RetOk X s = RetOk X s' := by rw [h]
@[congr] theorem callL_congr {X : Env} {M : Md} {o : Oper} {f f' : AV} {args args' : List AV} {K : AS → Prop} {s s' : AS} (h1 : f = f') (h2 : args = args') (h3 : s = s') : CallL X M o f args K s = CallL X M o f' args' K s' := by rw [h1, h2, h3]
@[congr] theorem drawS_congr {b : Bool} {ops : Array Oper} {s s' : AS} (h : s = s') : drawS b ops s = drawS b ops s' := by rw [h]

theorem vcOps_list (X : Env) (n : Nat) (M : Md) (os : List Oper) (k : List Item) (s : AS) : vcOps X n M os.toArray.toList k s = vcOps X n M os k s := rfl
def dstAt (ops : Array Oper) (j : Nat) : Option Nat := (ops[j]?).bind (·.dst)
@[congr] theorem dstAt_congr {ops : Array Oper} {j j' : Nat} (h : j = j') : dstAt ops j = dstAt ops j' := by rw [h]
theorem dstAt_zero (o : Oper) (l : List Oper) : dstAt (o :: l).toArray 0 = o.dst := by simp [dstAt]
theorem dstAt_succ (o : Oper) (l : List Oper) (j : Nat) : dstAt (o :: l).toArray (j + 1) = dstAt l.toArray j := by simp [dstAt]
/-- Both ways of a boolean; only the boolean is looked into. -/
def guardP (b : Bool) (T F : Prop) : Prop := (b = true → T) ∧ (b = false → F)
@[congr] theorem guardP_congr {b b' : Bool} {T F : Prop} (h : b = b') : guardP b T F = guardP b' T F := by rw [h]
theorem guardP_intro {b : Bool} {T F : Prop} (h1 : b = true → T) (h2 : b = false → F) : guardP b T F := ⟨h1, h2⟩
theorem guardP_intron {b : Bool} {T F : Prop} (h1 : b = false → T) (h2 : b = true → F) : guardP (!b) T F := ⟨fun h => h1 (by simpa using h), fun h => h2 (by simpa using h)⟩
theorem guardP_true (T F : Prop) : guardP true T F = T := by simp [guardP]
theorem guardP_false (T F : Prop) : guardP false T F = F := by simp [guardP]
theorem guardP_dec (p : Prop) [Decidable p] (T F : Prop) : guardP (decide p) T F = ((p → T) ∧ (¬ p → F)) := by simp [guardP]
theorem guardP_ndec (p : Prop) [Decidable p] (T F : Prop) : guardP (!decide p) T F = ((¬ p → T) ∧ (p → F)) := by simp [guardP]
theorem guardP_var (b : Bool) (T F : Prop) : guardP b T F = ((b = true → T) ∧ (b = false → F)) := rfl
theorem guardP_not (b : Bool) (T F : Prop) : guardP (!b) T F = guardP b F T := by cases b <;> simp [guardP]
/-- Of a value that must be a boolean, or undefined. -/
def cAt (a : AV) (T F : Prop) : Prop := match a with | .bool b => guardP b T F | .abool => T ∧ F | _ => False
@[congr] theorem cAt_congr {a a' : AV} {T F : Prop} (h : a = a') : cAt a T F = cAt a' T F := by rw [h]
theorem cAt_abool (T F : Prop) : cAt .abool T F = (T ∧ F) := nrfl rfl
theorem cAt_bool (b : Bool) (T F : Prop) : cAt (.bool b) T F = guardP b T F := nrfl rfl
def gAt (a : AV) (T F U : Prop) : Prop := match a with | .bool b => guardP b T F | .tup [] => U | _ => False
@[congr] theorem gAt_congr {a a' : AV} {T F U : Prop} (h : a = a') : gAt a T F U = gAt a' T F U := by rw [h]
theorem gAt_bool (b : Bool) (T F U : Prop) : gAt (.bool b) T F U = guardP b T F := nrfl rfl
theorem gAt_undef (T F U : Prop) : gAt undefA T F U = U := nrfl rfl
theorem gAt_tup (T F U : Prop) : gAt (.tup []) T F U = U := nrfl rfl
def dAt (o : Option Nat) (K : Nat → Prop) : Prop := match o with | some e => K e | none => False
@[congr] theorem dAt_congr {o o' : Option Nat} {K : Nat → Prop} (h : o = o') : dAt o K = dAt o' K := by rw [h]
theorem dAt_some (e : Nat) (K : Nat → Prop) : dAt (some e) K = K e := nrfl rfl
def pAt (a : AV) (T F : Prop) : Prop := match a with | .bool true => T | .bool false => F | _ => False
@[congr] theorem pAt_congr {a a' : AV} {T F : Prop} (h : a = a') : pAt a T F = pAt a' T F := by rw [h]
theorem pAt_true (T F : Prop) : pAt (.bool true) T F = T := nrfl rfl
theorem pAt_false (T F : Prop) : pAt (.bool false) T F = F := nrfl rfl
def xAt (a : AV) (j : Nat) (K : AV → Prop) : Prop := match a with | .tup l => j < l.length ∧ K (l.getD j .any) | _ => False
@[congr] theorem xAt_congr {a a' : AV} {j : Nat} {K : AV → Prop} (h : a = a') : xAt a j K = xAt a' j K := by rw [h]
theorem xAt_zero (a : AV) (l : List AV) (K : AV → Prop) : xAt (.tup (a :: l)) 0 K = K a := by simp [xAt]
theorem xAt_succ (a : AV) (l : List AV) (j : Nat) (K : AV → Prop) : xAt (.tup (a :: l)) (j + 1) K = xAt (.tup l) j K := by simp [xAt]
def eAt (o : Option (List Item)) (K : List Item → Prop) : Prop := match o with | some k => K k | none => False
@[congr] theorem eAt_congr {o o' : Option (List Item)} {K : List Item → Prop} (h : o = o') : eAt o K = eAt o' K := by rw [h]
theorem eAt_some (k : List Item) (K : List Item → Prop) : eAt (some k) K = K k := nrfl rfl
theorem vc_condC (X : Env) (n : Nat) (k : List Item) (s : AS) (o : Operand) (a b : Code) : vc X (n+1) (.code (.cond o a b) :: k) s = cAt (s.ev o) (vc X n (.code a :: k) s) (vc X n (.code b :: k) s) := by
  rw [vc_cond]
  unfold cAt guardP
  cases s.ev o <;> rfl
theorem vc_exitC (X : Env) (n : Nat) (k : List Item) (s : AS) (i : Nat) : vc X (n+1) (.code (.exit i) :: k) s = eAt (exitTo i k) fun k' => vc X n k' s := by
  rw [vc_exit]
  unfold eAt
  cases exitTo i k <;> rfl
theorem op_pickC (X : Env) (n : Nat) (k : List Item) (s : AS) (all : Array Oper) (st : Nat → Bool) (hc : Bool) (bs : Option Nat) (i nx : Nat) (os : List Oper) (d : Option Nat) (t : TypeId) (p : String) (af : Array Edge) (g : Option (Nat × Bool)) (x y z : Operand) :
    vcOp X (n+1) ⟨all, st, hc, bs, i, nx⟩ ⟨d, .pick x y z, t, p, af, g⟩ os k s = pAt (s.ev x) (vcOps X n ⟨all, st, hc, bs, i + 1, nx⟩ os k (s.putO d (s.ev y))) (vcOps X n ⟨all, st, hc, bs, i + 1, nx⟩ os k (s.putO d (s.ev z))) := by
  rw [op_pick]
  unfold pAt
  cases hx : s.ev x with
  | bool b => cases b <;> rfl
  | _ => rfl
theorem op_extractC (X : Env) (n : Nat) (k : List Item) (s : AS) (all : Array Oper) (st : Nat → Bool) (hc : Bool) (bs : Option Nat) (i nx : Nat) (os : List Oper) (d : Option Nat) (t : TypeId) (p : String) (af : Array Edge) (g : Option (Nat × Bool)) (x : Operand) (j : Nat) :
    vcOp X (n+1) ⟨all, st, hc, bs, i, nx⟩ ⟨d, .extract x j, t, p, af, g⟩ os k s = xAt (s.ev x) j fun v => vcOps X n ⟨all, st, hc, bs, i + 1, nx⟩ os k (s.putO d v) := by
  rw [op_extract]
  unfold xAt
  cases hx : s.ev x <;> rfl
theorem vcOps_gdT (X : Env) (n : Nat) (k : List Item) (s : AS) (all : Array Oper) (st : Nat → Bool) (hc : Bool) (bs : Option Nat) (i nx : Nat) (os : List Oper)
    (d : Option Nat) (op : Op) (t : TypeId) (p : String) (af : Array Edge) (j : Nat) : vcOps X (n+1) ⟨all, st, hc, bs, i, nx⟩ (⟨d, op, t, p, af, some (j, true)⟩ :: os) k s =
  dAt (dstAt all j) fun e => gAt (s.get e) (vcOp X n ⟨all, st, hc, bs, i, nx⟩ ⟨d, op, t, p, af, some (j, true)⟩ os k (s.fix e (.bool true)))
    (vcOps X n (Md.next ⟨all, st, hc, bs, i, nx⟩ ⟨d, op, t, p, af, some (j, true)⟩) os k ((s.fix e (.bool false)).putO d undefA))
    (vcOps X n (Md.next ⟨all, st, hc, bs, i, nx⟩ ⟨d, op, t, p, af, some (j, true)⟩) os k (s.putO d undefA)) := by
  rw [vcOps_guard]
  show (match dstAt all j with | some e => _ | none => False) = _
  unfold dAt
  cases dstAt all j with
  | none => rfl
  | some e =>
    simp only
    cases hx : s.get e with
    | bool b => simp only [gAt, guardP]; simp
    | tup l => cases l <;> rfl
    | _ => rfl
theorem vcOps_gdF (X : Env) (n : Nat) (k : List Item) (s : AS) (all : Array Oper) (st : Nat → Bool) (hc : Bool) (bs : Option Nat) (i nx : Nat) (os : List Oper)
    (d : Option Nat) (op : Op) (t : TypeId) (p : String) (af : Array Edge) (j : Nat) : vcOps X (n+1) ⟨all, st, hc, bs, i, nx⟩ (⟨d, op, t, p, af, some (j, false)⟩ :: os) k s =
  dAt (dstAt all j) fun e => gAt (s.get e) (vcOps X n (Md.next ⟨all, st, hc, bs, i, nx⟩ ⟨d, op, t, p, af, some (j, false)⟩) os k ((s.fix e (.bool true)).putO d undefA))
    (vcOp X n ⟨all, st, hc, bs, i, nx⟩ ⟨d, op, t, p, af, some (j, false)⟩ os k (s.fix e (.bool false)))
    (vcOps X n (Md.next ⟨all, st, hc, bs, i, nx⟩ ⟨d, op, t, p, af, some (j, false)⟩) os k (s.putO d undefA)) := by
  rw [vcOps_guard]
  show (match dstAt all j with | some e => _ | none => False) = _
  unfold dAt
  cases dstAt all j with
  | none => rfl
  | some e =>
    simp only
    cases hx : s.get e with
    | bool b => simp only [gAt, guardP]; simp
    | tup l => cases l <;> rfl
    | _ => rfl
theorem vcOps_nextN (X : Env) (n : Nat) (k : List Item) (s : AS) (all : Array Oper) (st : Nat → Bool) (hc : Bool) (i nx : Nat) (o : Oper) (os : List Oper) :
    vcOps X n (Md.next ⟨all, st, hc, none, i, nx⟩ o) os k s = vcOps X n ⟨all, st, hc, none, i + 1, nx⟩ os k s := nrfl rfl
theorem vcOps_nextS (X : Env) (n : Nat) (k : List Item) (s : AS) (all : Array Oper) (st : Nat → Bool) (hc : Bool) (b i nx : Nat) (o : Oper) (os : List Oper) :
    vcOps X n (Md.next ⟨all, st, hc, some b, i, nx⟩ o) os k s = if cls hc o.op = 2 then vcOps X n ⟨all, st, hc, some b, i + 1, nx + 1⟩ os k s else vcOps X n ⟨all, st, hc, some b, i + 1, nx⟩ os k s := by
  rw [next_some]
  split <;> simp [*]

theorem vcOps_consL (X : Env) (n : Nat) (k : List Item) (s : AS) (all : Array Oper) (st : Nat → Bool) (hc : Bool) (bs : Option Nat) (i nx : Nat) (os : List Oper)
    (d : Option Nat) (op : Op) (t : TypeId) (p : String) (af : Array Edge) : vcOps X (n+1) ⟨all, st, hc, bs, i, nx⟩ (⟨d, op, t, p, af, none⟩ :: os) k s = vcOp X n ⟨all, st, hc, bs, i, nx⟩ ⟨d, op, t, p, af, none⟩ os k s := nrfl rfl
theorem exitTo_in (i j : Nat) (k : List Item) : exitTo i (.inBlock j :: k) = if i = j then some k else exitTo i k := by
  simp only [exitTo, beq_iff_eq]
  first | rfl | (by_cases h : i = j <;> simp [h, eq_comm])
theorem exitTo_code (i : Nat) (c : Code) (k : List Item) : exitTo i (.code c :: k) = exitTo i k := nrfl rfl
theorem exitTo_loop (i : Nat) (c : Code) (k : List Item) : exitTo i (.inLoop c :: k) = exitTo i k := nrfl rfl
theorem exitTo_scope (i : Nat) (c : Code) (k : List Item) : exitTo i (.inScope c :: k) = exitTo i k := nrfl rfl
@[congr] theorem exitTo_congr {i i' : Nat} {k : List Item} (h : i = i') : exitTo i k = exitTo i' k := by rw [h]

section
variable (P : Program) (fn : Func) (str hcs : List Nat) (b : Nat) (r : AV) (H' : List AO)
theorem envP_P : (envP P fn str hcs r).P = P := nrfl rfl
theorem envP_fn : (envP P fn str hcs r).fn = fn := nrfl rfl
theorem envP_str : (envP P fn str hcs r).str = str := nrfl rfl
theorem envP_hcs : (envP P fn str hcs r).hcs = hcs := nrfl rfl
theorem envP_base : (envP P fn str hcs r).base = 0 := rfl
theorem envH_P : (envH P fn str hcs b r H').P = P := nrfl rfl
theorem envH_fn : (envH P fn str hcs b r H').fn = fn := nrfl rfl
theorem envH_str : (envH P fn str hcs b r H').str = str := nrfl rfl
theorem envH_hcs : (envH P fn str hcs b r H').hcs = hcs := nrfl rfl
theorem envH_base : (envH P fn str hcs b r H').base = b := rfl
end

/-! ### The operations, case by case -/
section
variable (P : Program)
theorem oif_t {α : Type} {p : Prop} (h : p) (x : Option α) : oif p x = x := if_pos h
theorem abinC_tmp (op : BinOp) (t : TypeId) (i : Nat) (a b : AV) : abinC P op t (.tmp i) a b = abin P op t a b := nrfl rfl
theorem abinC_int (op : BinOp) (t : TypeId) (k : IntKind) (n : Int) (a b : AV) : abinC P op t (.const (.int k n)) a b = abin P op t a b := nrfl rfl
theorem abinC_bool (op : BinOp) (t : TypeId) (x : Bool) (a b : AV) : abinC P op t (.const (.bool x)) a b = abin P op t a b := nrfl rfl
theorem abinC_str (op : BinOp) (t : TypeId) (x : ByteArray) (a b : AV) : abinC P op t (.const (.string x)) a b = abin P op t a b := nrfl rfl
theorem abinC_ptr (op : BinOp) (t : TypeId) (x : Option Addr) (a b : AV) : abinC P op t (.const (.pointer x)) a b = abin P op t a b := nrfl rfl
theorem abinC_nilif (op : BinOp) (t : TypeId) (a b : AV) : abinC P op t (.const .nilIface) a b = abin P op t a b := nrfl rfl
theorem abinC_nil (op : BinOp) (t : TypeId) (a b : AV) : abinC P op t (.const (.slice none 0 0)) a b = anil P op t a := nrfl rfl
theorem anil_eql (t : TypeId) (n m : Nat) (f : Nat → AV) (b : Bool) : anil P .eql t (.sl n m f b) = oif (sliceT P t = true) (some (if n = 0 then .abool else .bool false)) := nrfl rfl
theorem anil_neq (t : TypeId) (n m : Nat) (f : Nat → AV) (b : Bool) : anil P .neq t (.sl n m f b) = oif (sliceT P t = true) (some (if n = 0 then .abool else .bool true)) := nrfl rfl
theorem abin_aeql (t : TypeId) (l m : List AV) : abin P .eql t (.agg l) (.agg m) = oif (seqT P t l.length = true) ((aeqA true l m).map .bool) := nrfl rfl
theorem abin_aneq (t : TypeId) (l m : List AV) : abin P .neq t (.agg l) (.agg m) = oif (seqT P t l.length = true) ((aeqA true l m).map fun b => .bool (!b)) := nrfl rfl
theorem aeqA_nil (acc : Bool) : aeqA acc [] [] = some acc := nrfl rfl
theorem aeqA_int (acc : Bool) (k : IntKind) (x y : Int) (l m : List AV) : aeqA acc (.int k x :: l) (.int k y :: m) = aeqA (acc && decide (x = y)) l m := oif_t rfl _
theorem aun_nota : aun .not .abool = some .abool := nrfl rfl
theorem map_someB (f : Bool → AV) (b : Bool) : (some b).map f = some (f b) := nrfl rfl
theorem abin_shl (t : TypeId) (k k' : IntKind) (x y : Int) : abin P .shl t (.int k x) (.int k' y) = oif (0 ≤ y) (some (.int k (ishl k x y))) := nrfl rfl
theorem abin_shr (t : TypeId) (k k' : IntKind) (x y : Int) : abin P .shr t (.int k x) (.int k' y) = oif (0 ≤ y) (some (.int k (ishr k x y))) := nrfl rfl
theorem abin_add (t : TypeId) (k : IntKind) (x y : Int) : abin P .add t (.int k x) (.int k y) = some (.int k (k.wrap (x + y))) := oif_t rfl _
theorem abin_sub (t : TypeId) (k : IntKind) (x y : Int) : abin P .sub t (.int k x) (.int k y) = some (.int k (k.wrap (x - y))) := oif_t rfl _
theorem abin_mul (t : TypeId) (k : IntKind) (x y : Int) : abin P .mul t (.int k x) (.int k y) = some (.int k (k.wrap (x * y))) := oif_t rfl _
theorem abin_quo (t : TypeId) (k : IntKind) (x y : Int) : abin P .quo t (.int k x) (.int k y) = oif (y ≠ 0) (some (.int k (k.wrap (x.tdiv y)))) := by simp [abin]
theorem abin_rem (t : TypeId) (k : IntKind) (x y : Int) : abin P .rem t (.int k x) (.int k y) = oif (y ≠ 0) (some (.int k (x.tmod y))) := by simp [abin]
theorem abin_and (t : TypeId) (k : IntKind) (x y : Int) : abin P .and t (.int k x) (.int k y) = some (.int k (iand k x y)) := oif_t rfl _
theorem abin_or (t : TypeId) (k : IntKind) (x y : Int) : abin P .or t (.int k x) (.int k y) = some (.int k (ior k x y)) := oif_t rfl _
theorem abin_xor (t : TypeId) (k : IntKind) (x y : Int) : abin P .xor t (.int k x) (.int k y) = some (.int k (ixor k x y)) := oif_t rfl _
theorem abin_andNot (t : TypeId) (k : IntKind) (x y : Int) : abin P .andNot t (.int k x) (.int k y) = some (.int k (iandn k x y)) := oif_t rfl _
theorem abin_eql (t : TypeId) (k : IntKind) (x y : Int) : abin P .eql t (.int k x) (.int k y) = some (.bool (decide (x = y))) := oif_t rfl _
theorem abin_neq (t : TypeId) (k : IntKind) (x y : Int) : abin P .neq t (.int k x) (.int k y) = some (.bool (!decide (x = y))) := oif_t rfl _
theorem abin_lss (t : TypeId) (k : IntKind) (x y : Int) : abin P .lss t (.int k x) (.int k y) = some (.bool (decide (x < y))) := oif_t rfl _
theorem abin_leq (t : TypeId) (k : IntKind) (x y : Int) : abin P .leq t (.int k x) (.int k y) = some (.bool (decide (x ≤ y))) := oif_t rfl _
theorem abin_gtr (t : TypeId) (k : IntKind) (x y : Int) : abin P .gtr t (.int k x) (.int k y) = some (.bool (decide (y < x))) := oif_t rfl _
theorem abin_geq (t : TypeId) (k : IntKind) (x y : Int) : abin P .geq t (.int k x) (.int k y) = some (.bool (decide (y ≤ x))) := oif_t rfl _
theorem abin_beql (t : TypeId) (x y : Bool) : abin P .eql t (.bool x) (.bool y) = oif (boolT P t = true) (some (.bool (x == y))) := nrfl rfl
theorem abin_bneq (t : TypeId) (x y : Bool) : abin P .neq t (.bool x) (.bool y) = oif (boolT P t = true) (some (.bool (!(x == y)))) := nrfl rfl
theorem abin_nn (t : TypeId) : abin P .eql t .nil .nil = oif (ptrT P t = true) (some (.bool true)) := nrfl rfl
theorem abin_nnn (t : TypeId) : abin P .neq t .nil .nil = oif (ptrT P t = true) (some (.bool false)) := nrfl rfl
theorem abin_pn (t : TypeId) (m : Nat) (f : Nat → AV) (o : Nat) : abin P .eql t (.ptr m f o) .nil = oif (ptrT P t = true) (some (.bool false)) := by simp [abin, AV.isPtr]
theorem abin_pnn (t : TypeId) (m : Nat) (f : Nat → AV) (o : Nat) : abin P .neq t (.ptr m f o) .nil = oif (ptrT P t = true) (some (.bool true)) := by simp [abin, AV.isPtr]
theorem abin_rn (t : TypeId) (m o v : Nat) : abin P .eql t (.ref m v o) .nil = oif (ptrT P t = true) (some (.bool false)) := by simp [abin, AV.isPtr]
theorem abin_rnn (t : TypeId) (m o v : Nat) : abin P .neq t (.ref m v o) .nil = oif (ptrT P t = true) (some (.bool true)) := by simp [abin, AV.isPtr]
theorem aun_not (b : Bool) : aun .not (.bool b) = some (.bool !b) := nrfl rfl
theorem aun_neg (k : IntKind) (n : Int) : aun .neg (.int k n) = some (.int k (k.wrap (0 - n))) := nrfl rfl
theorem aun_xor (k : IntKind) (n : Int) : aun .xor (.int k n) = some (.int k (ixor k (if k.signed then -1 else k.max) n)) := nrfl rfl
theorem amin_int (k : IntKind) (x y : Int) : amin (.int k x) (.int k y) = some (.int k (if y < x then y else x)) := oif_t rfl _
theorem amax_int (k : IntKind) (x y : Int) : amax (.int k x) (.int k y) = some (.int k (if x < y then y else x)) := oif_t rfl _
end

theorem oif_true {α : Type} (x : Option α) : oif True x = x := if_pos trivial
theorem oif_false {α : Type} (x : Option α) : oif False x = none := if_neg id
theorem one_int (k : IntKind) (n : Int) : (AV.int k n).one = true := nrfl rfl
theorem one_bool (b : Bool) : (AV.bool b).one = true := nrfl rfl
theorem one_str (s : ByteArray) : (AV.str s).one = true := nrfl rfl
theorem one_nil : AV.nil.one = true := nrfl rfl
theorem one_ptr (m : Nat) (f : Nat → AV) (o : Nat) : (AV.ptr m f o).one = true := nrfl rfl
theorem one_sl (n m : Nat) (f : Nat → AV) (t : Bool) : (AV.sl n m f t).one = true := nrfl rfl
theorem one_ref (i v o : Nat) : (AV.ref i v o).one = true := nrfl rfl
theorem one_osl (i v e o n : Nat) : (AV.osl i v e o n).one = true := nrfl rfl
theorem one_mp (i : Nat) : (AV.mp i).one = true := nrfl rfl
theorem one_cmap (k : IntKind) (g : Int → Option Value) : (AV.cmap k g).one = true := nrfl rfl
theorem one_nilmap : AV.nilmap.one = true := nrfl rfl
theorem one_fn (g : FuncId) (l : List AV) : (AV.fn g l).one = true := nrfl rfl
theorem one_nilfn : AV.nilfn.one = true := nrfl rfl
theorem one_nilif : AV.nilif.one = true := nrfl rfl
theorem one_iface (t : TypeId) (a : AV) : (AV.iface t a).one = true := nrfl rfl
theorem one_any : AV.any.one = false := nrfl rfl
theorem cells_agg (l : List AV) : (AV.agg l).cells = l := nrfl rfl
theorem cells_int (k : IntKind) (n : Int) : AV.cells (.int k n) = [.int k n] := nrfl rfl
theorem loose_int (k : IntKind) (n : Int) : AV.loose (.int k n) = .int k n := nrfl rfl
theorem cells_bool (b : Bool) : AV.cells (.bool b) = [.bool b] := nrfl rfl
theorem loose_bool (b : Bool) : AV.loose (.bool b) = .bool b := nrfl rfl
theorem cells_str (s : ByteArray) : AV.cells (.str s) = [.str s] := nrfl rfl
theorem loose_str (s : ByteArray) : AV.loose (.str s) = .str s := nrfl rfl
theorem cells_nil  : AV.cells (.nil) = [.nil] := nrfl rfl
theorem loose_nil  : AV.loose (.nil) = .nil := nrfl rfl
theorem cells_ptr (m : Nat) (f : Nat → AV) (o : Nat) : AV.cells (.ptr m f o) = [.ptr m f o] := nrfl rfl
theorem loose_ptr (m : Nat) (f : Nat → AV) (o : Nat) : AV.loose (.ptr m f o) = .ptr m f o := nrfl rfl
theorem cells_sl (n m : Nat) (f : Nat → AV) (t : Bool) : AV.cells (.sl n m f t) = [.sl n m f t] := nrfl rfl
theorem loose_sl (n m : Nat) (f : Nat → AV) (t : Bool) : AV.loose (.sl n m f t) = .sl n m f false := nrfl rfl
theorem cells_ref (i v o : Nat) : AV.cells (.ref i v o) = [.ref i v o] := nrfl rfl
theorem loose_ref (i v o : Nat) : AV.loose (.ref i v o) = .ref i v o := nrfl rfl
theorem cells_osl (i v e o n : Nat) : AV.cells (.osl i v e o n) = [.osl i v e o n] := nrfl rfl
theorem loose_osl (i v e o n : Nat) : AV.loose (.osl i v e o n) = .osl i v e o n := nrfl rfl
theorem cells_mp (i : Nat) : AV.cells (.mp i) = [.mp i] := nrfl rfl
theorem loose_mp (i : Nat) : AV.loose (.mp i) = .mp i := nrfl rfl
theorem cells_cmap (k : IntKind) (g : Int → Option Value) : AV.cells (.cmap k g) = [.cmap k g] := nrfl rfl
theorem loose_cmap (k : IntKind) (g : Int → Option Value) : AV.loose (.cmap k g) = .cmap k g := nrfl rfl
theorem cells_nilmap  : AV.cells (.nilmap) = [.nilmap] := nrfl rfl
theorem loose_nilmap  : AV.loose (.nilmap) = .nilmap := nrfl rfl
theorem cells_fn (g : FuncId) (l : List AV) : AV.cells (.fn g l) = [.fn g l] := nrfl rfl
theorem loose_fn (g : FuncId) (l : List AV) : AV.loose (.fn g l) = .fn g l := nrfl rfl
theorem cells_nilfn  : AV.cells (.nilfn) = [.nilfn] := nrfl rfl
theorem loose_nilfn  : AV.loose (.nilfn) = .nilfn := nrfl rfl
theorem cells_nilif  : AV.cells (.nilif) = [.nilif] := nrfl rfl
theorem loose_nilif  : AV.loose (.nilif) = .nilif := nrfl rfl
theorem cells_iface (t : TypeId) (a : AV) : AV.cells (.iface t a) = [.iface t a] := nrfl rfl
theorem loose_iface (t : TypeId) (a : AV) : AV.loose (.iface t a) = .iface t a := nrfl rfl
theorem loose_agg (l : List AV) : AV.loose (.agg l) = .agg l := nrfl rfl
theorem loose_tup (l : List AV) : AV.loose (.tup l) = .tup l := nrfl rfl
theorem cells_one (a : AV) (h : a.one = true) : a.cells = [a] := by cases a <;> first | rfl | simp [AV.one] at h

/-! ### The end -/
theorem ret1 {P : Program} {fn : Func} {str hcs : List Nat} {r : AV} {s : AS} {t : Nat} (hr : fn.results = #[.tmp t]) (h : Sees s.h (s.get t) r) : RetOk (envP P fn str hcs r) s :=
  ⟨s.get t, by simp [resV, envP_fn, hr, resList, resAt, packR], h⟩
theorem ret2 {P : Program} {fn : Func} {str hcs : List Nat} {r : AV} {s : AS} {t u : Nat} (hr : fn.results = #[.tmp t, .tmp u]) (h : Sees s.h (.tup [s.get t, s.get u]) r) : RetOk (envP P fn str hcs r) s :=
  ⟨.tup [s.get t, s.get u], by simp [resV, envP_fn, hr, resList, resAt, packR], h⟩
theorem ret3 {P : Program} {fn : Func} {str hcs : List Nat} {r : AV} {s : AS} {t u v : Nat} (hr : fn.results = #[.tmp t, .tmp u, .tmp v]) (h : Sees s.h (.tup [s.get t, s.get u, s.get v]) r) : RetOk (envP P fn str hcs r) s :=
  ⟨.tup [s.get t, s.get u, s.get v], by simp [resV, envP_fn, hr, resList, resAt, packR], h⟩
theorem retH1 {P : Program} {fn : Func} {str hcs : List Nat} {b : Nat} {r : AV} {H : List AO} {s : AS} {t : Nat} (hr : fn.results = #[.tmp t]) (h : s.get t = r) (hH : s.h = H) : RetOk (envH P fn str hcs b r H) s :=
  ⟨s.get t, by simp [resV, envH_fn, hr, resList, resAt, packR], h, hH⟩
theorem sees_of {H : List AO} {a b : AV} (h : Settled b) (he : a = b) : Sees H a b := by subst he; exact h.sees H

/-! ### Typed objects -/
theorem sees_row {α : Type} {e : α → AV} {d : α} {l : List α} {H : List AO} {id ver n off : Nat} (he : ∀ a, Settled (e a)) (ho : H[id]? = some (.row ver n (slF e d l)) ∨ H[id]? = some (.con ver n (slF e d l))) (hn : l.length ≤ n) (hoff : off = 0) :
    Sees H (.osl id ver 1 off l.length) (sl1 e d l) := by
  subst hoff
  exact sees_osl ho (by omega) (by omega) fun j _ => by rw [Nat.zero_add]; exact (he _).sees H
theorem sees_ints {l : List Int} {H : List AO} {id ver n : Nat} (ho : H[id]? = some (.row ver n (slF I 0 l))) (hn : l.length ≤ n) : Sees H (.osl id ver 1 0 l.length) (ints l) := sees_row settled_I (.inl ho) hn rfl
theorem sees_intsE {l : List Int} {H : List AO} {a : AV} {id ver n m : Nat} {g : Nat → AV} (ha : a = .osl id ver 1 0 m) (ho : H[id]? = some (.row ver n g)) (hm : m = l.length) (hg : g = slF I 0 l) (hn : l.length ≤ n) : Sees H a (ints l) := by
  subst ha; subst hm; subst hg; exact sees_ints ho hn
theorem sees_rowE {α : Type} {e : α → AV} {d : α} {l : List α} {H : List AO} {a : AV} {id ver n m : Nat} {g : Nat → AV} (he : ∀ a, Settled (e a)) (ha : a = .osl id ver 1 0 m) (ho : H[id]? = some (.row ver n g)) (hm : m = l.length) (hg : g = slF e d l) (hn : l.length ≤ n) : Sees H a (sl1 e d l) := by
  subst ha; subst hm; subst hg; exact sees_row he (.inl ho) hn rfl
theorem sees_empty {H : List AO} {f g : Nat → AV} {t : Bool} : Sees H (.sl 0 0 f t) (.sl 0 0 g false) := by
  intro c v _ _ h
  cases h with
  | sl b base _ _ cap _ _ us hS hc hr hn ht => exact .slz _ _ _ _ (by simp)
  | slz a cap _ _ ht => exact .slz _ _ _ _ (by simp)
theorem one_ofL1 (a : AV) : (∀ j, j < 1 → (ofL [a] j).one = true) = (a.one = true) := by
  apply propext
  constructor
  · intro h; exact h 0 (by omega)
  · intro h j hj
    obtain rfl : j = 0 := by omega
    exact h
theorem one_slF {α : Type} (e : α → AV) (d : α) (l : List α) (he : ∀ a, (e a).one = true) (n : Nat) : (∀ j, j < n → (slF e d l j).one = true) = True := by
  simp [slF, he]
theorem one_slI (l : List Int) (n : Nat) : (∀ j, j < n → (slF I 0 l j).one = true) = True := one_slF I 0 l (fun _ => rfl) n
theorem one_slInts (l : List (List Int)) (n : Nat) : (∀ j, j < n → (slF ints [] l j).one = true) = True := one_slF ints [] l (fun _ => rfl) n
theorem appF_I (l : List Int) (x : Int) : appF l.length (slF I 0 l) 1 (ofL [.int .i64 x]) = slF I 0 (l ++ [x]) := by
  have := appF_one I 0 l x
  rw [Nat.mul_one, Nat.mul_one] at this
  exact this
theorem appF_Is (l m : List Int) : appF l.length (slF I 0 l) m.length (slF I 0 m) = slF I 0 (l ++ m) := by simpa using appF_slF I 0 l m

theorem rep_heap {c c' : Ctx} (hw : c'.w = c.w) (hS : c'.S = c.S) (hγ : c'.γ = c.γ) (hi : ∀ id, inf c'.H id = inf c.H id) (hd : ∀ id : Nat, c'.H[id]? = some AO.dead ↔ c.H[id]? = some AO.dead)
    (hm : ∀ (id : Nat) k g, c.H[id]? = some (AO.map k g) → c'.H[id]? = some (AO.map k g)) {v : Value} {a : AV} (h : Rep c v a) : Rep c' v a :=
  h.ext (fun b hb => by rw [hS]; exact hb) (fun b _ => by rw [hw]) (by
    intro id o ho
    have key : ∀ v, inf c.H id = some v → (c'.H[id]? = some .dead ∨ ∃ v', Ab.inf c'.H id = some v' ∧ (v < v' ∨ (v' = v ∧ c'.γ id = c.γ id))) :=
      fun v hv => .inr ⟨v, by rw [hi]; exact hv, .inr ⟨rfl, by rw [hγ]⟩⟩
    cases o with
    | unborn => trivial
    | dead => exact (hd id).2 ho
    | row v _ _ => exact key v (by simp [inf, ho, AO.info])
    | con v _ _ => exact key v (by simp [inf, ho, AO.info])
    | map k g => exact .inr ⟨⟨k, g, hm id k g ho⟩, by rw [hγ]⟩)

/-- What an object holds, told otherwise. -/
theorem sub_rowf {m : Nat} {s : AS} (id : Nat) {ver n : Nat} {f : Nat → AV} (n' : Nat) (g : Nat → AV) (ho : s.h[id]? = some (.row ver n f)) (hn' : n' ≤ n) (hfg : ∀ j, j < n' → f j = g j) : Sub m s { s with h := s.h.set id (.row ver n' g) } := by
  intro N c a hst
  have hH := hst.heap
  rw [← hH] at ho
  have hlt := (List.getElem?_eq_some_iff.1 ho).1
  have hat : (c.H.set id (.row ver n' g))[id]? = some (.row ver n' g) := by simp [hlt]
  have hoth : ∀ i, i ≠ id → (c.H.set id (AO.row ver n' g))[i]? = c.H[i]? := fun i hi => List.getElem?_set_ne (Ne.symm hi)
  let c' : Ctx := ⟨c.w, c.S, c.γ, c.H.set id (.row ver n' g)⟩
  have hinf : ∀ i, inf c'.H i = inf c.H i := fun i => by
    by_cases hi : i = id
    · subst hi; simp [inf, c', hat, ho, AO.info]
    · simp [inf, c', hoth i hi]
  have hdead : ∀ i : Nat, c'.H[i]? = some AO.dead ↔ c.H[i]? = some AO.dead := fun i => by
    by_cases hi : i = id
    · subst hi; simp [c', hat, ho]
    · simp [c', hoth i hi]
  have hmap : ∀ (i : Nat) k q, c.H[i]? = some (AO.map k q) ↔ c'.H[i]? = some (AO.map k q) := fun i k q => by
    by_cases hi : i = id
    · subst hi; simp [c', hat, ho]
    · simp [c', hoth i hi]
  have hrep : ∀ {v a}, Rep c v a → Rep c' v a := fun hv => rep_heap (c := c) (c' := c') rfl rfl rfl hinf hdead (fun i k q => (hmap i k q).1) hv
  have howns : ∀ b, owns c' b → owns c b := by
    rintro b ⟨i, o, sz, hoi, hown, hg⟩
    by_cases hi : i = id
    · subst hi; exact ⟨i, _, sz, ho, rfl, hg⟩
    · exact ⟨i, o, sz, by rw [← hoth i hi]; exact hoi, hown, hg⟩
  have hext : Ext c c' := by
    refine ⟨?_, fun b h => h, fun b h => .inl h, fun b h => .inr (howns b h), fun _ _ _ => rfl, Nat.le_refl _, rfl, rfl, rfl⟩
    intro i o hoi
    have key : ∀ v, inf c.H i = some v → (c'.H[i]? = some .dead ∨ ∃ v', Ab.inf c'.H i = some v' ∧ (v < v' ∨ (v' = v ∧ c'.γ i = c.γ i))) :=
      fun v hv => .inr ⟨v, by rw [hinf]; exact hv, .inr ⟨rfl, rfl⟩⟩
    cases o with
    | unborn => trivial
    | dead => exact (hdead i).2 hoi
    | row v _ _ => exact key v (by simp [inf, hoi, AO.info])
    | con v _ _ => exact key v (by simp [inf, hoi, AO.info])
    | map k q => exact .inr ⟨⟨k, q, (hmap i k q).1 hoi⟩, rfl⟩
  refine ⟨c', rfl, hext.toB m, hst.size, hst.defers, fun i => hrep (hst.slots i), by simp [c', hH], ?_⟩
  refine ⟨?_, ?_, ?_, ?_, hst.hrel.bound⟩
  · intro i v k q hoi
    by_cases hi : i = id
    · subst hi
      simp only [c'] at hoi
      rw [hat] at hoi; cases hoi
      rcases hst.hrel.row i ver n f ho with h | ⟨b, sz, cs, el, h1, h2, h3, h4, h5, h6⟩
      · exact .inl ⟨h.1, by omega⟩
      · exact .inr ⟨b, sz, cs, el, h1, h2, h3, by omega, h5, fun j hj => by rw [← hfg j hj]; exact hrep (h6 j (by omega))⟩
    · simp only [c'] at hoi
      rw [hoth i hi] at hoi
      rcases hst.hrel.row i v k q hoi with h | ⟨b, sz, cs, el, h1, h2, h3, h4, h5, h6⟩
      · exact .inl h
      · exact .inr ⟨b, sz, cs, el, h1, h2, h3, h4, h5, fun j hj => hrep (h6 j hj)⟩
  · intro i v k q hoi
    by_cases hi : i = id
    · subst hi; simp only [c'] at hoi; rw [hat] at hoi; cases hoi
    · simp only [c'] at hoi
      rw [hoth i hi] at hoi
      rcases hst.hrel.con i v k q hoi with h | ⟨b, sz, cs, el, fr, h1, h2, h3, h4, h5, h6⟩
      · exact .inl h
      · exact .inr ⟨b, sz, cs, el, fr, h1, h2, h3, h4, h5, fun j hj => hrep (h6 j hj)⟩
  · intro i k q hoi
    obtain ⟨b, sz, es, cl, h1, h2, h3, h4⟩ := hst.hrel.map i k q ((hmap i k q).2 hoi)
    exact ⟨b, sz, es, cl, h1, h2, h3, h4.ext fun v a hv => hrep hv⟩
  · intro i i' o o' b sz sz' hoi hoi' h1 h2 hg hg'
    have key : ∀ (i : Nat) o, c'.H[i]? = some o → o.owned = true → ∃ o2 : AO, c.H[i]? = some o2 ∧ o2.owned = true := by
      intro i o hoi h
      by_cases hi : i = id
      · subst hi; exact ⟨_, ho, rfl⟩
      · exact ⟨o, by rw [← hoth i hi]; exact hoi, h⟩
    obtain ⟨o2, k1, k2⟩ := key i o hoi h1
    obtain ⟨o3, k3, k4⟩ := key i' o' hoi' h2
    exact hst.hrel.inj _ _ _ _ _ _ _ k1 k3 k2 k4 hg hg'

end
end Go.Ab
namespace Go.Ab
open Go Go.RowKit
noncomputable section

/-! ### A state in its plain form -/
def okS (n0 : Nat) (hid : List Nat) (sl : List AV) (tm : List (Nat × AV)) (h : List AO) : AS := ⟨n0, hid, sl, tm, h⟩
def mkS (s : AS) : AS := s
theorem mkS_lit (n0 : Nat) (hid : List Nat) (sl : List AV) (tm : List (Nat × AV)) (h : List AO) : mkS ⟨n0, hid, sl, tm, h⟩ = okS n0 hid sl tm h := nrfl rfl
def normS (s : AS) (K : AS → Prop) : Prop := K s
@[congr] theorem normS_congr {s s' : AS} {K : AS → Prop} (h : s = s') : normS s K = normS s' K := by rw [h]
theorem normS_ok (n0 : Nat) (hid : List Nat) (sl : List AV) (tm : List (Nat × AV)) (h : List AO) (K : AS → Prop) : normS (okS n0 hid sl tm h) K = K ⟨n0, hid, sl, tm, h⟩ := nrfl rfl

section
variable (X : Env) (n : Nat) (k : List Item) (s : AS)
theorem Nvc_region (id : Nat) (ops : List Oper) : vc X (n+1) (.code (.region id ops.toArray false) :: k) s = (normS (mkS s.clr) fun s => vcOps X n ⟨ops.toArray, fun _ => false, true, none, 0, 0⟩ ops k s) := nrfl rfl
theorem Nvc_draw (id : Nat) (ops : List Oper) : vc X (n+1) (.code (.region id ops.toArray true) :: k) s =
  (normS (mkS (s.frz (frzAt X.str id))) fun s => normS (mkS (drawS (X.hcs.contains id) ops.toArray s)) fun s' => vcOps X n ⟨ops.toArray, strAt X.str id, X.hcs.contains id, some s.h.length, 0, s.h.length⟩ ops k s') := nrfl rfl
theorem frz_nil : s.frz [] = s := nrfl rfl
theorem frz_cons (i : Nat) (l : List Nat) : s.frz (i :: l) = (frz1 s (s.get i)).frz l := nrfl rfl
theorem frz1_ref (id ver off : Nat) : frz1 s (.ref id ver off) = frzO s id s.h[id]? := nrfl rfl
theorem frz1_osl (id ver es off n : Nat) : frz1 s (.osl id ver es off n) = frzO s id s.h[id]? := nrfl rfl
theorem frzO_row (n0 : Nat) (hid : List Nat) (sl : List AV) (tm : List (Nat × AV)) (h : List AO) (id ver n : Nat) (f : Nat → AV) : frzO ⟨n0, hid, sl, tm, h⟩ id (some (.row ver n f)) = ⟨n0, hid, sl, tm, h.set id (.con ver n f)⟩ := nrfl rfl
theorem frzO_con (n0 : Nat) (hid : List Nat) (sl : List AV) (tm : List (Nat × AV)) (h : List AO) (id ver n : Nat) (f : Nat → AV) : frzO ⟨n0, hid, sl, tm, h⟩ id (some (.con ver n f)) = ⟨n0, hid, sl, tm, h⟩ := nrfl rfl
theorem frzAt_nil (id : Nat) : frzAt [] id = [] := nrfl rfl
theorem frzAt_cons (n : Nat) (l : List Nat) (id : Nat) : frzAt (n :: l) id = if n / 10000000 = id + 1 then n % 10000000 :: frzAt l id else frzAt l id := nrfl rfl
variable (all : Array Oper) (st : Nat → Bool) (hc : Bool) (bs : Option Nat) (i nx : Nat) (os : List Oper) (d : Option Nat) (t : TypeId) (p : String) (af : Array Edge) (g : Option (Nat × Bool))
theorem NvcOps_gdT (op : Op) (j : Nat) : vcOps X (n+1) ⟨all, st, hc, bs, i, nx⟩ (⟨d, op, t, p, af, some (j, true)⟩ :: os) k s =
  dAt (dstAt all j) fun e => gAt (s.get e) (normS (mkS (s.fix e (.bool true))) fun s => vcOp X n ⟨all, st, hc, bs, i, nx⟩ ⟨d, op, t, p, af, some (j, true)⟩ os k s)
    (normS (mkS ((s.fix e (.bool false)).putO d undefA)) fun s => vcOps X n (Md.next ⟨all, st, hc, bs, i, nx⟩ ⟨d, op, t, p, af, some (j, true)⟩) os k s)
    (normS (mkS (s.putO d undefA)) fun s => vcOps X n (Md.next ⟨all, st, hc, bs, i, nx⟩ ⟨d, op, t, p, af, some (j, true)⟩) os k s) := vcOps_gdT X n k s all st hc bs i nx os d op t p af j
theorem NvcOps_gdF (op : Op) (j : Nat) : vcOps X (n+1) ⟨all, st, hc, bs, i, nx⟩ (⟨d, op, t, p, af, some (j, false)⟩ :: os) k s =
  dAt (dstAt all j) fun e => gAt (s.get e) (normS (mkS ((s.fix e (.bool true)).putO d undefA)) fun s => vcOps X n (Md.next ⟨all, st, hc, bs, i, nx⟩ ⟨d, op, t, p, af, some (j, false)⟩) os k s)
    (normS (mkS (s.fix e (.bool false))) fun s => vcOp X n ⟨all, st, hc, bs, i, nx⟩ ⟨d, op, t, p, af, some (j, false)⟩ os k s)
    (normS (mkS (s.putO d undefA)) fun s => vcOps X n (Md.next ⟨all, st, hc, bs, i, nx⟩ ⟨d, op, t, p, af, some (j, false)⟩) os k s) := vcOps_gdF X n k s all st hc bs i nx os d op t p af j
theorem NvcOp_call (M : Md) (f : Operand) (args : Array Operand) (ts : Array TypeId) :
  vcOp X (n+1) M ⟨d, .call { callee := .value f, args := args, argTypes := ts }, t, p, af, g⟩ os k s =
    CallT X M ⟨d, .call { callee := .value f, args := args, argTypes := ts }, t, p, af, g⟩
      (fun s' => normS (mkS s') fun s' => vcOps X n (M.next ⟨d, .call { callee := .value f, args := args, argTypes := ts }, t, p, af, g⟩) os k s') .mk (s.ev f) (args.toList.map s.ev) s := nrfl rfl
theorem Nvc_zero : vc X 0 k s = RunT X k .mk s := nrfl (by unfold vc; rfl)
theorem Nvc_ret : vc X (n+1) (.code .ret :: k) s = RetT X .mk s := nrfl rfl
theorem Nvc_nil : vc X (n+1) [] s = RetT X .mk s := nrfl rfl
theorem Nvc_loop (b : Code) : vc X (n+1) (.code (.loop b) :: k) s = RunT X (.code (.loop b) :: k) .mk s := nrfl rfl
theorem Nvc_inLoop (b : Code) : vc X (n+1) (.inLoop b :: k) s = RunT X (.inLoop b :: k) .mk s := nrfl rfl
theorem Nop_pick (x y z : Operand) : vcOp X (n+1) ⟨all, st, hc, bs, i, nx⟩ ⟨d, .pick x y z, t, p, af, g⟩ os k s =
    pAt (s.ev x) (normS (mkS (s.putO d (s.ev y))) fun s => vcOps X n ⟨all, st, hc, bs, i + 1, nx⟩ os k s) (normS (mkS (s.putO d (s.ev z))) fun s => vcOps X n ⟨all, st, hc, bs, i + 1, nx⟩ os k s) := by
  rw [op_pickC]; rfl
theorem Nop_extract (x : Operand) (j : Nat) : vcOp X (n+1) ⟨all, st, hc, bs, i, nx⟩ ⟨d, .extract x j, t, p, af, g⟩ os k s = xAt (s.ev x) j fun v => (normS (mkS (s.putO d v)) fun s => vcOps X n ⟨all, st, hc, bs, i + 1, nx⟩ os k s) := by
  rw [op_extractC]; rfl
theorem Nop_move (x : Operand) : vcOp X (n+1) ⟨all, st, hc, bs, i, nx⟩ ⟨d, .move x, t, p, af, g⟩ os k s = (normS (mkS (s.putO d (s.ev x))) fun s => vcOps X n ⟨all, st, hc, bs, i + 1, nx⟩ os k s) := by
  first | (rw [op_move]; rfl) | rw [op_move]
theorem Nop_assign (x : Operand) : vcOp X (n+1) ⟨all, st, hc, bs, i, nx⟩ ⟨d, .assign x, t, p, af, g⟩ os k s = (normS (mkS (s.putO d (s.ev x))) fun s => vcOps X n ⟨all, st, hc, bs, i + 1, nx⟩ os k s) := by
  first | (rw [op_assign]; rfl) | rw [op_assign]
theorem Nop_load (u : TypeId) (x : Operand) : vcOp X (n+1) ⟨all, st, hc, bs, i, nx⟩ ⟨d, .load u x, t, p, af, g⟩ os k s = obind (aload X.P (st i) u (s.ev x) s.h) fun v => (normS (mkS (s.putO d v)) fun s => vcOps X n ⟨all, st, hc, bs, i + 1, nx⟩ os k s) := by
  first | (rw [op_load]; rfl) | rw [op_load]
theorem Nop_bin (o : BinOp) (u u' : TypeId) (x y : Operand) : vcOp X (n+1) ⟨all, st, hc, bs, i, nx⟩ ⟨d, .binOp o u x y u', t, p, af, g⟩ os k s = obind (abinC X.P o u y (s.ev x) (s.ev y)) fun v => (normS (mkS (s.putO d v)) fun s => vcOps X n ⟨all, st, hc, bs, i + 1, nx⟩ os k s) := by
  first | (rw [op_bin]; rfl) | rw [op_bin]
theorem Nop_un (o : UnOp) (u : TypeId) (x : Operand) : vcOp X (n+1) ⟨all, st, hc, bs, i, nx⟩ ⟨d, .unOp o u x, t, p, af, g⟩ os k s = obind (aun o (s.ev x)) fun v => (normS (mkS (s.putO d v)) fun s => vcOps X n ⟨all, st, hc, bs, i + 1, nx⟩ os k s) := by
  first | (rw [op_un]; rfl) | rw [op_un]
theorem Nop_conv (u u' : TypeId) (x : Operand) : vcOp X (n+1) ⟨all, st, hc, bs, i, nx⟩ ⟨d, .convert u u' x, t, p, af, g⟩ os k s = obind (aconv X.P u u' (s.ev x)) fun v => (normS (mkS (s.putO d v)) fun s => vcOps X n ⟨all, st, hc, bs, i + 1, nx⟩ os k s) := by
  first | (rw [op_conv]; rfl) | rw [op_conv]
theorem Nop_indexAddr (u : TypeId) (x y : Operand) : vcOp X (n+1) ⟨all, st, hc, bs, i, nx⟩ ⟨d, .indexAddr u x y, t, p, af, g⟩ os k s = obind (aindex X.P u (s.ev x) (s.ev y)) fun v => (normS (mkS (s.putO d v)) fun s => vcOps X n ⟨all, st, hc, bs, i + 1, nx⟩ os k s) := by
  first | (rw [op_indexAddr]; rfl) | rw [op_indexAddr]
theorem Nop_index (u : TypeId) (x y : Operand) : vcOp X (n+1) ⟨all, st, hc, bs, i, nx⟩ ⟨d, .index u x y, t, p, af, g⟩ os k s = obind (aidx X.P u (s.ev x) (s.ev y)) fun v => (normS (mkS (s.putO d v)) fun s => vcOps X n ⟨all, st, hc, bs, i + 1, nx⟩ os k s) := by
  first | (rw [op_index]; rfl) | rw [op_index]
theorem Nop_fieldAddr (u : TypeId) (x : Operand) (j : Nat) : vcOp X (n+1) ⟨all, st, hc, bs, i, nx⟩ ⟨d, .fieldAddr u x j, t, p, af, g⟩ os k s = obind (afieldA X.P u (s.ev x) j) fun v => (normS (mkS (s.putO d v)) fun s => vcOps X n ⟨all, st, hc, bs, i + 1, nx⟩ os k s) := by
  first | (rw [op_fieldAddr]; rfl) | rw [op_fieldAddr]
theorem Nop_field (u : TypeId) (x : Operand) (j : Nat) : vcOp X (n+1) ⟨all, st, hc, bs, i, nx⟩ ⟨d, .field u x j, t, p, af, g⟩ os k s = obind (afield X.P u (s.ev x) j) fun v => (normS (mkS (s.putO d v)) fun s => vcOps X n ⟨all, st, hc, bs, i + 1, nx⟩ os k s) := by
  first | (rw [op_field]; rfl) | rw [op_field]
theorem Nop_build (u : TypeId) (ps : Array (Nat × Operand)) : vcOp X (n+1) ⟨all, st, hc, bs, i, nx⟩ ⟨d, .build u ps, t, p, af, g⟩ os k s = obind (abuild X.P u (ps.toList.map fun q => (q.1, s.ev q.2))) fun v => (normS (mkS (s.putO d v)) fun s => vcOps X n ⟨all, st, hc, bs, i + 1, nx⟩ os k s) := by
  first | (rw [op_build]; rfl) | rw [op_build]
theorem Nop_buildSlice (u : TypeId) (m : Nat) (ps : Array (Nat × Operand)) : vcOp X (n+1) ⟨all, st, hc, bs, i, nx⟩ ⟨d, .buildSlice u m ps, t, p, af, g⟩ os k s = obind (abuildS X.P u m (ps.toList.map fun q => (q.1, s.ev q.2))) fun v => (normS (mkS (s.putO d v)) fun s => vcOps X n ⟨all, st, hc, bs, i + 1, nx⟩ os k s) := by
  first | (rw [op_buildSlice]; rfl) | rw [op_buildSlice]
theorem Nop_store (u : TypeId) (x y : Operand) : vcOp X (n+1) ⟨all, st, hc, bs, i, nx⟩ ⟨d, .store u x y, t, p, af, g⟩ os k s = obind (astore X.P u (s.ev x) (s.ev y) s.h) fun h' => (normS (mkS (({ s with h := h' } : AS).putO d undefA)) fun s => vcOps X n ⟨all, st, hc, bs, i + 1, nx⟩ os k s) := by
  first | (rw [op_store]; rfl) | rw [op_store]
theorem Nop_mapUpdate (u : TypeId) (x y z : Operand) : vcOp X (n+1) ⟨all, st, hc, bs, i, nx⟩ ⟨d, .mapUpdate u x y z, t, p, af, g⟩ os k s = obind (aupdate X.P u (s.ev x) (s.ev y) (s.ev z) s.h) fun h' => (normS (mkS (({ s with h := h' } : AS).putO d undefA)) fun s => vcOps X n ⟨all, st, hc, bs, i + 1, nx⟩ os k s) := by
  first | (rw [op_mapUpdate]; rfl) | rw [op_mapUpdate]
theorem Nop_insert (u : TypeId) (x y z : Operand) : vcOp X (n+1) ⟨all, st, hc, bs, i, nx⟩ ⟨d, .insert u x y z, t, p, af, g⟩ os k s = obind (aupdate X.P u (s.ev x) (s.ev y) (s.ev z) s.h) fun h' => (normS (mkS (({ s with h := h' } : AS).putO d undefA)) fun s => vcOps X n ⟨all, st, hc, bs, i + 1, nx⟩ os k s) := by
  first | (rw [op_insert]; rfl) | rw [op_insert]
theorem Nop_lookup (u : TypeId) (x y : Operand) (b : Bool) : vcOp X (n+1) ⟨all, st, hc, bs, i, nx⟩ ⟨d, .lookup u x y b, t, p, af, g⟩ os k s = obind (alookup X.P u (s.ev x) (s.ev y) b s.h) fun v => (normS (mkS (s.putO d v)) fun s => vcOps X n ⟨all, st, hc, bs, i + 1, nx⟩ os k s) := by
  first | (rw [op_lookup]; rfl) | rw [op_lookup]
theorem Nop_nilCheck (x : Operand) : vcOp X (n+1) ⟨all, st, hc, bs, i, nx⟩ ⟨d, .nilCheck x, t, p, af, g⟩ os k s = ((s.ev x).isPtr = true ∧ (normS (mkS (s.putO d (s.ev x))) fun s => vcOps X n ⟨all, st, hc, bs, i + 1, nx⟩ os k s)) := by
  first | (rw [op_nilCheck]; rfl) | rw [op_nilCheck]
theorem Nop_slice (u : TypeId) (x : Operand) (lo hi : Option Operand) : vcOp X (n+1) ⟨all, st, hc, bs, i, nx⟩ ⟨d, .slice u x lo hi none, t, p, af, g⟩ os k s =
    obind (aslice X.P u (s.ev x) (lo.map s.ev) (hi.map s.ev) none) fun v => (normS (mkS (s.putO d v)) fun s => vcOps X n ⟨all, st, hc, bs, i + 1, nx⟩ os k s) := by
  first | (rw [op_slice]; rfl) | rw [op_slice]
theorem Nop_slice3 (u : TypeId) (x : Operand) (lo : Option Operand) (hi mx : Operand) : vcOp X (n+1) ⟨all, st, hc, bs, i, nx⟩ ⟨d, .slice u x lo (some hi) (some mx), t, p, af, g⟩ os k s =
    obind (aslice X.P u (s.ev x) (lo.map s.ev) (some (s.ev hi)) (some (s.ev mx))) fun v => (normS (mkS (s.putO d v)) fun s => vcOps X n ⟨all, st, hc, bs, i + 1, nx⟩ os k s) := by
  first | (rw [op_slice3]; rfl) | rw [op_slice3]
theorem Nop_makeFunc (f : FuncId) (caps : Array Operand) : vcOp X (n+1) ⟨all, st, hc, bs, i, nx⟩ ⟨d, .makeFunc (.func f) #[] caps, t, p, af, g⟩ os k s = (normS (mkS (s.putO d (.fn f (caps.toList.map s.ev)))) fun s => vcOps X n ⟨all, st, hc, bs, i + 1, nx⟩ os k s) := by
  first | (rw [op_makeFunc]; rfl) | rw [op_makeFunc]
theorem Nop_len (x : Operand) (u : TypeId) : vcOp X (n+1) ⟨all, st, hc, bs, i, nx⟩ ⟨d, .call { callee := .builtin .len, args := #[x], argTypes := #[u] }, t, p, af, g⟩ os k s =
    obind (alen X.P u (s.ev x)) fun v => (normS (mkS (s.putO d v)) fun s => vcOps X n ⟨all, st, hc, bs, i + 1, nx⟩ os k s) := by
  first | (rw [op_len]; rfl) | rw [op_len]
theorem Nop_min (x y : Operand) (us : Array TypeId) : vcOp X (n+1) ⟨all, st, hc, bs, i, nx⟩ ⟨d, .call { callee := .builtin .min, args := #[x, y], argTypes := us }, t, p, af, g⟩ os k s =
    obind (amin (s.ev x) (s.ev y)) fun v => (normS (mkS (s.putO d v)) fun s => vcOps X n ⟨all, st, hc, bs, i + 1, nx⟩ os k s) := by
  first | (rw [op_min]; rfl) | rw [op_min]
theorem Nop_max (x y : Operand) (us : Array TypeId) : vcOp X (n+1) ⟨all, st, hc, bs, i, nx⟩ ⟨d, .call { callee := .builtin .max, args := #[x, y], argTypes := us }, t, p, af, g⟩ os k s =
    obind (amax (s.ev x) (s.ev y)) fun v => (normS (mkS (s.putO d v)) fun s => vcOps X n ⟨all, st, hc, bs, i + 1, nx⟩ os k s) := by
  first | (rw [op_max]; rfl) | rw [op_max]
theorem Nop_append (x y : Operand) (u : TypeId) : vcOp X (n+1) ⟨all, st, hc, bs, i, nx⟩ ⟨d, .call { callee := .builtin .append, args := #[x, y], argTypes := #[u, u] }, t, p, af, g⟩ os k s =
    obind (aappend X.P u (s.ev x) (s.ev y) s.h) fun r => (normS (mkS (({ s with h := r.2 } : AS).putO d r.1)) fun s => vcOps X n ⟨all, st, hc, bs, i + 1, nx⟩ os k s) := by
  first | (rw [op_append]; rfl) | rw [op_append]
theorem Nop_copy (x y : Operand) (u u' : TypeId) : vcOp X (n+1) ⟨all, st, hc, bs, i, nx⟩ ⟨d, .call { callee := .builtin .copy, args := #[x, y], argTypes := #[u, u'] }, t, p, af, g⟩ os k s =
    obind (acopy X.P u (s.ev x) (s.ev y) s.h) fun r => (normS (mkS (({ s with h := r.2 } : AS).putO d r.1)) fun s => vcOps X n ⟨all, st, hc, bs, i + 1, nx⟩ os k s) := by
  first | (rw [op_copy]; rfl) | rw [op_copy]
theorem Nop_appendZ (x y : Operand) (u u' : TypeId) (hne : u ≠ u') : vcOp X (n+1) ⟨all, st, hc, bs, i, nx⟩ ⟨d, .call { callee := .builtin .append, args := #[x, y], argTypes := #[u, u'] }, t, p, af, g⟩ os k s =
    obind (azapp X.P u u' (s.ev x) (s.ev y) s.h) fun r => (normS (mkS (({ s with h := r.2 } : AS).putO d r.1)) fun s => vcOps X n ⟨all, st, hc, bs, i + 1, nx⟩ os k s) := by
  first | (rw [op_appendZ (hne := hne)]; rfl) | rw [op_appendZ (hne := hne)]
theorem Nop_cap (x : Operand) (u : TypeId) : vcOp X (n+1) ⟨all, st, hc, bs, i, nx⟩ ⟨d, .call { callee := .builtin .cap, args := #[x], argTypes := #[u] }, t, p, af, g⟩ os k s =
    obind (acap X.P u (s.ev x)) fun v => (normS (mkS (s.putO d v)) fun s => vcOps X n ⟨all, st, hc, bs, i + 1, nx⟩ os k s) := by
  first | (rw [op_cap]; rfl) | rw [op_cap]
theorem Nop_alloc (u : TypeId) : vcOp X (n+1) ⟨all, st, hc, none, i, nx⟩ ⟨d, .alloc u, t, p, af, g⟩ os k s =
    obind (aalloc X.P none u s.h) fun r => (normS (mkS (({ s with h := r.2 } : AS).putO d r.1)) fun s => vcOps X n ⟨all, st, hc, none, i + 1, nx⟩ os k s) := by
  first | (rw [op_alloc]; rfl) | rw [op_alloc]
theorem Nop_box (u : TypeId) (x : Operand) : vcOp X (n+1) ⟨all, st, hc, none, i, nx⟩ ⟨d, .box u x, t, p, af, g⟩ os k s =
    obind (abox none (s.ev x) s.h) fun r => (normS (mkS (({ s with h := r.2 } : AS).putO d r.1)) fun s => vcOps X n ⟨all, st, hc, none, i + 1, nx⟩ os k s) := by
  first | (rw [op_box]; rfl) | rw [op_box]
theorem Nop_make (u : TypeId) (x y : Operand) : vcOp X (n+1) ⟨all, st, hc, none, i, nx⟩ ⟨d, .makeSlice u x y, t, p, af, g⟩ os k s =
    obind (amake X.P none u (s.ev x) (s.ev y) s.h) fun r => (normS (mkS (({ s with h := r.2 } : AS).putO d r.1)) fun s => vcOps X n ⟨all, st, hc, none, i + 1, nx⟩ os k s) := by
  first | (rw [op_make]; rfl) | rw [op_make]
theorem Nop_makeMap (u : TypeId) : vcOp X (n+1) ⟨all, st, hc, none, i, nx⟩ ⟨d, .makeMap u none, t, p, af, g⟩ os k s =
    obind (amkmap X.P none u s.h) fun r => (normS (mkS (({ s with h := r.2 } : AS).putO d r.1)) fun s => vcOps X n ⟨all, st, hc, none, i + 1, nx⟩ os k s) := by
  first | (rw [op_makeMap]; rfl) | rw [op_makeMap]
variable (b : Nat)
theorem Nop_allocS (u : TypeId) : vcOp X (n+1) ⟨all, st, hc, some b, i, nx⟩ ⟨d, .alloc u, t, p, af, g⟩ os k s =
    (s.h[nx]? = some .unborn ∧ obind (aalloc X.P (some nx) u s.h) fun r => (normS (mkS (({ s with h := r.2 } : AS).putO d r.1)) fun s => vcOps X n ⟨all, st, hc, some b, i + 1, nx + 1⟩ os k s)) := by
  first | (rw [op_allocS]; rfl) | rw [op_allocS]
theorem Nop_boxS (u : TypeId) (x : Operand) : vcOp X (n+1) ⟨all, st, hc, some b, i, nx⟩ ⟨d, .box u x, t, p, af, g⟩ os k s =
    (s.h[nx]? = some .unborn ∧ obind (abox (some nx) (s.ev x) s.h) fun r => (normS (mkS (({ s with h := r.2 } : AS).putO d r.1)) fun s => vcOps X n ⟨all, st, hc, some b, i + 1, nx + 1⟩ os k s)) := by
  first | (rw [op_boxS]; rfl) | rw [op_boxS]
theorem Nop_makeS (u : TypeId) (x y : Operand) : vcOp X (n+1) ⟨all, st, hc, some b, i, nx⟩ ⟨d, .makeSlice u x y, t, p, af, g⟩ os k s =
    (s.h[nx]? = some .unborn ∧ obind (amake X.P (some nx) u (s.ev x) (s.ev y) s.h) fun r => (normS (mkS (({ s with h := r.2 } : AS).putO d r.1)) fun s => vcOps X n ⟨all, st, hc, some b, i + 1, nx + 1⟩ os k s)) := by
  first | (rw [op_makeS]; rfl) | rw [op_makeS]
theorem Nop_makeMapS (u : TypeId) : vcOp X (n+1) ⟨all, st, hc, some b, i, nx⟩ ⟨d, .makeMap u none, t, p, af, g⟩ os k s =
    (s.h[nx]? = some .unborn ∧ obind (amkmap X.P (some nx) u s.h) fun r => (normS (mkS (({ s with h := r.2 } : AS).putO d r.1)) fun s => vcOps X n ⟨all, st, hc, some b, i + 1, nx + 1⟩ os k s)) := by
  first | (rw [op_makeMapS]; rfl) | rw [op_makeMapS]
end
theorem ofL_at (l : List AV) (j : Nat) : ofL l j = l.getD j .any := nrfl rfl
theorem one_getD1 (a : AV) : (∀ j, j < 1 → (([a] : List AV).getD j .any).one = true) = (a.one = true) := one_ofL1 a
theorem zfun_one (a : AV) : zfun [a] = fun _ => a := nrfl rfl
theorem vc_soundN {X : Env} (n : Nat) {k : List Item} {s : AS} (h : normS (mkS s) fun s => vc X n k s) : Run X k s := vc_sound n h
theorem runN {K : AS → Prop} {s : AS} (h : normS (mkS s) K) : K s := h
end
end Go.Ab
