/- A layer of abstract values and heaps over the model; what is proved here is that its steps and contracts are sound, for every program. -/
import Derived.Test.YtefjhgcndhepeaaGreatAb3
import Derived.WalkKit
import Derived.ProofKit
import Derived.OpenShut
import Derived.JoinedCond
import Derived.Carry
set_option linter.unusedSimpArgs false
set_option linter.unusedVariables false
namespace Go.Ab
open Go Go.RowKit
noncomputable section
theorem DS {c:Ctx} (hr:HRel c) (m:Nat) (hO:∀ o∈c.H.take m,XT m o):HRel ⟨c.w,c.S,c.γ,c.H.take m⟩:=by
 have hget:∀ (i:Nat) (o:AO),(c.H.take m)[i]?=some o→c.H[i]?=some o∧i<m:=by
  intro i o ho
  rw [List.getElem?_take] at ho
  split at ho
  ·exact ⟨ho,by assumption⟩
  ·cases ho
 have hmem:∀ (i:Nat) (o:AO),(c.H.take m)[i]?=some o→XT m o:=fun i o ho=>hO o (List.mem_of_getElem? ho)
 refine ⟨?_,?_,?_,?_,hr.bound⟩
 ·intro id v n f ho
  have hb:=hmem _ _ ho
  rcases hr.row id v n f (hget _ _ ho).1 with h | ⟨b,sz,cs,el,g1,g2,g3,g4,g5,g6⟩
  ·exact .inl h
  ·exact .inr ⟨b,sz,cs,el,g1,g2,g3,g4,g5,fun j hj=>hb j hj c _ (g6 j hj)⟩
 ·intro id v n f ho
  have hb:=hmem _ _ ho
  rcases hr.con id v n f (hget _ _ ho).1 with h | ⟨b,sz,cs,el,fr,g1,g2,g3,g4,g5,g6⟩
  ·exact .inl h
  ·exact .inr ⟨b,sz,cs,el,fr,g1,g2,g3,g4,g5,fun j hj=>hb j hj c _ (g6 j hj)⟩
 ·intro id k g ho
  have hb:=hmem _ _ ho
  obtain ⟨b,sz,es,cl,g1,g2,g3,g4⟩:=hr.map id k g (hget _ _ ho).1
  exact ⟨b,sz,es,cl,g1,g2,g3,g4.keys,g4.uniq,fun n a hn=>let ⟨e,he,hk,hr⟩:=g4.hit n a hn; ⟨e,he,hk,hb n a hn c _ hr⟩,g4.miss⟩
 ·intro i i' o o' b sz sz' ho ho' g1 g2 hg hg'
  exact hr.inj _ _ _ _ _ _ _ (hget _ _ ho).1 (hget _ _ ho').1 g1 g2 hg hg'
theorem ic {w:World} {S:Nat→Prop} {γ γ':Nat→Option (Nat×Nat)} {H rest:List AO} (hγ:∀ id,id<H.length→γ' id=γ id) (w':World) (S':Nat→Prop):HLe ⟨w,S,γ,H⟩ ⟨w',S',γ',H ++ rest⟩:=by
 intro id o ho
 have ho':H[id]?=some o:=ho
 have hlt:=(List.getElem?_eq_some_iff.1 ho').1
 have h1:(H ++ rest)[id]?=some o:=by rw [List.getElem?_append_left hlt]; exact ho
 have hg:=hγ id hlt
 cases o with
 | unborn=>trivial
 | dead=>exact h1
 | row v _ _=>exact .inr ⟨v,by simp [inf,h1,AO.info],.inr ⟨rfl,hg⟩⟩
 | con v _ _=>exact .inr ⟨v,by simp [inf,h1,AO.info],.inr ⟨rfl,hg⟩⟩
 | map k g=>exact .inr ⟨⟨k,g,h1⟩,hg⟩
theorem EL {c:Ctx} {H1 H1' rest:List AO} {v:AV} (hH:c.H=H1 ++ rest) (hr:HRel c) (hlen:H1'.length=H1.length) {w':World} {S':Nat→Prop} {γ':Nat→Option (Nat×Nat)} {x:Value}
  (hx:Rep ⟨w',S',γ',H1'⟩ x v) (hr':HRel ⟨w',S',γ',H1'⟩) (hext:Ext ⟨c.w,c.S,c.γ,H1⟩ ⟨w',S',γ',H1'⟩):∃ γ2,Rep ⟨w',S',γ2,H1' ++ rest⟩ x v∧HRel ⟨w',S',γ2,H1' ++ rest⟩∧Ext c ⟨w',S',γ2,H1' ++ rest⟩:=by
 have old:∀ (id:Nat) (o:AO),H1[id]?=some o→c.H[id]?=some o:=fun id o ho=>by
  rw [hH,List.getElem?_append_left (List.getElem?_eq_some_iff.1 ho).1]; exact ho
 have own1:∀ b,Z2 ⟨c.w,c.S,c.γ,H1⟩ b→Z2 c b:=fun b ⟨id,o,sz,ho,hown,hg⟩=>⟨id,o,sz,old id o ho,hown,hg⟩
 let γ2:Nat→Option (Nat×Nat):=fun id=>if id<H1.length then γ' id else c.γ id
 have g2a:∀ id,id<H1.length→γ2 id=γ' id:=fun id hid=>if_pos hid
 have g2b:∀ id,¬ id<H1.length→γ2 id=c.γ id:=fun id hid=>if_neg hid
 have newAt:∀ (id:Nat) (o:AO),(H1' ++ rest)[id]?=some o→(id<H1.length∧H1'[id]?=some o)∨(¬ id<H1.length∧c.H[id]?=some o):=by
  intro id o ho
  by_cases hid:id<H1.length
  ·exact .inl ⟨hid,by rwa [List.getElem?_append_left (by omega)] at ho⟩
  ·refine .inr ⟨hid,?_⟩
   rw [List.getElem?_append_right (by omega),hlen] at ho
   rw [hH,List.getElem?_append_right (by omega)]; exact ho
 have lift:∀ {u a},Rep ⟨w',S',γ',H1'⟩ u a→Rep ⟨w',S',γ2,H1' ++ rest⟩ u a:=fun hu =>
  hu.ext (fun _ h=>h) (fun _ _=>rfl) (ic (fun id hid=>g2a id (by rw [← hlen]; exact hid)) _ _)
 have apart:∀ (id:Nat) (o:AO) (b sz:Nat),¬ id<H1.length→c.H[id]?=some o→o.owned=true→c.γ id=some (b,sz)→¬ Z2 ⟨c.w,c.S,c.γ,H1⟩ b:=by
  rintro id o b sz hid ho hown hg ⟨id',o',sz',ho',hown',hg'⟩
  have:=hr.inj id id' o o' b sz sz' ho (old id' o' ho') hown hown' hg hg'
  have hlt:=(List.getElem?_eq_some_iff.1 (show H1[id']?=some o' from ho')).1
  omega
 have hextC:Ext c ⟨w',S',γ2,H1' ++ rest⟩:=by
  refine ⟨?_,hext.smono,fun b hb=>(hext.snew b hb).imp id (Or.imp id (own1 b)),?_,fun b hlt hno=>hext.same b hlt (fun ho=>hno (own1 b ho)),hext.size,hext.os,hext.tape,hext.output⟩
  ·intro id o ho
   by_cases hid:id<H1.length
   ·have ho1:H1[id]?=some o:=by rw [hH,List.getElem?_append_left hid] at ho; exact ho
    have h1:=hext.hle id o ho1
    have hinf:inf (H1' ++ rest) id=inf H1' id:=by unfold inf; rw [List.getElem?_append_left (by omega)]
    have hget:(H1' ++ rest)[id]?=H1'[id]?:=List.getElem?_append_left (by omega)
    cases o with
    | unborn=>trivial
    | dead=>show (H1' ++ rest)[id]?=_; rw [hget]; exact h1
    | row v _ _ =>
     show (H1' ++ rest)[id]?=_∨∃ v',inf (H1' ++ rest) id=_∧(_∨(_∧γ2 id=_))
     rw [hget,hinf,g2a id hid]; exact h1
    | con v _ _ =>
     show (H1' ++ rest)[id]?=_∨∃ v',inf (H1' ++ rest) id=_∧(_∨(_∧γ2 id=_))
     rw [hget,hinf,g2a id hid]; exact h1
    | map k g =>
     show (H1' ++ rest)[id]?=_∨((∃ k g,(H1' ++ rest)[id]?=_)∧γ2 id=_)
     rw [hget,g2a id hid]; exact h1
   ·have hget:(H1' ++ rest)[id]?=c.H[id]?:=by rw [List.getElem?_append_right (by omega),hlen,hH,List.getElem?_append_right (by omega)]
    have hinf:inf (H1' ++ rest) id=inf c.H id:=by unfold inf; rw [hget]
    have h1:=HLe.refl c id o ho
    cases o with
    | unborn=>trivial
    | dead=>show (H1' ++ rest)[id]?=_; rw [hget]; exact h1
    | row v _ _ =>
     show (H1' ++ rest)[id]?=_∨∃ v',inf (H1' ++ rest) id=_∧(_∨(_∧γ2 id=_))
     rw [hget,hinf,g2b id hid]; exact h1
    | con v _ _ =>
     show (H1' ++ rest)[id]?=_∨∃ v',inf (H1' ++ rest) id=_∧(_∨(_∧γ2 id=_))
     rw [hget,hinf,g2b id hid]; exact h1
    | map k g =>
     show (H1' ++ rest)[id]?=_∨((∃ k g,(H1' ++ rest)[id]?=_)∧γ2 id=_)
     rw [hget,g2b id hid]; exact h1
  ·rintro b ⟨id,o,sz,ho,hown,hg⟩
   rcases newAt id o ho with ⟨hid,ho'⟩ | ⟨hid,ho'⟩
   ·exact (hext.onew b ⟨id,o,sz,ho',hown,(g2a id hid).symm.trans hg⟩).imp (fun h=>h) (own1 b)
   ·exact .inr ⟨id,o,sz,ho',hown,(g2b id hid).symm.trans hg⟩
 have keep:∀ (id:Nat) (o:AO) (b sz:Nat),¬ id<H1.length→c.H[id]?=some o→o.owned=true→c.γ id=some (b,sz)→b<c.w.heap.size→¬ c.S b→w'.heap[b]?=c.w.heap[b]?∧¬ S' b:=by
  intro id o b sz hid ho hown hg hlt hnS
  have hno:=apart id o b sz hid ho hown hg
  refine ⟨hext.same b hlt hno,fun hs=>?_⟩
  rcases hext.snew b hs with h | h | h
  ·exact hnS h
  ·exact absurd hlt (Nat.not_lt.2 h)
  ·exact hno h
 refine ⟨γ2,lift hx,⟨?_,?_,?_,?_,hr'.bound⟩,hextC⟩
 ·intro id ver n g ho
  rcases newAt id _ ho with ⟨hid,ho'⟩ | ⟨hid,ho'⟩
  ·rw [show (⟨w',S',γ2,H1' ++ rest⟩:Ctx).γ id=γ' id from g2a id hid]
   rcases hr'.row id ver n g ho' with h | ⟨b,sz,cs,el,k1,k2,k3,k4,k5,k6⟩
   ·exact .inl h
   ·exact .inr ⟨b,sz,cs,el,k1,k2,k3,k4,k5,fun j hj=>lift (k6 j hj)⟩
  ·rw [show (⟨w',S',γ2,H1' ++ rest⟩:Ctx).γ id=c.γ id from g2b id hid]
   rcases hr.row id ver n g ho' with h | ⟨b,sz,cs,el,k1,k2,k3,k4,k5,k6⟩
   ·exact .inl h
   ·obtain ⟨q1,q2⟩:=keep id _ b sz hid ho' rfl k1 (Array.getElem?_eq_some_iff.1 k2).1 k5
    exact .inr ⟨b,sz,cs,el,k1,q1.trans k2,k3,k4,q2,fun j hj=>hextC.rep hr (k6 j hj)⟩
 ·intro id ver n g ho
  rcases newAt id _ ho with ⟨hid,ho'⟩ | ⟨hid,ho'⟩
  ·rw [show (⟨w',S',γ2,H1' ++ rest⟩:Ctx).γ id=γ' id from g2a id hid]
   rcases hr'.con id ver n g ho' with h | ⟨b,sz,cs,el,fr,k1,k2,k3,k4,k5,k6⟩
   ·exact .inl h
   ·exact .inr ⟨b,sz,cs,el,fr,k1,k2,k3,k4,k5,fun j hj=>lift (k6 j hj)⟩
  ·rw [show (⟨w',S',γ2,H1' ++ rest⟩:Ctx).γ id=c.γ id from g2b id hid]
   rcases hr.con id ver n g ho' with h | ⟨b,sz,cs,el,fr,k1,k2,k3,k4,k5,k6⟩
   ·exact .inl h
   ·have hno:¬ Z2 ⟨c.w,c.S,c.γ,H1⟩ b:=fun h=>hr.notOwn k5 (own1 b h)
    exact .inr ⟨b,sz,cs,el,fr,k1,(hext.same b (hr.bound b k5) hno).trans k2,k3,k4,hext.smono b k5,fun j hj=>hextC.rep hr (k6 j hj)⟩
 ·intro id k g ho
  rcases newAt id _ ho with ⟨hid,ho'⟩ | ⟨hid,ho'⟩
  ·rw [show (⟨w',S',γ2,H1' ++ rest⟩:Ctx).γ id=γ' id from g2a id hid]
   obtain ⟨b,sz,es,cl,k1,k2,k3,k4⟩:=hr'.map id k g ho'
   exact ⟨b,sz,es,cl,k1,k2,k3,k4.ext fun v a hv=>lift hv⟩
  ·rw [show (⟨w',S',γ2,H1' ++ rest⟩:Ctx).γ id=c.γ id from g2b id hid]
   obtain ⟨b,sz,es,cl,k1,k2,k3,k4⟩:=hr.map id k g ho'
   obtain ⟨q1,q2⟩:=keep id _ b sz hid ho' rfl k1 (Array.getElem?_eq_some_iff.1 k2).1 k3
   exact ⟨b,sz,es,cl,k1,q1.trans k2,q2,k4.ext fun v a hv=>hextC.rep hr hv⟩
 ·have mix:∀ (id id':Nat) (o o':AO) (b sz sz':Nat),id<H1.length→H1'[id]?=some o→o.owned=true→γ' id=some (b,sz)→¬ id'<H1.length→c.H[id']?=some o'→o'.owned=true→c.γ id'=some (b,sz')→False:=by
   intro id id' o o' b sz sz' hid ho hown hg hid' ho' hown' hg'
   have hlt:b<c.w.heap.size:=hr.ownLt ⟨id',o',sz',ho',hown',hg'⟩
   rcases hext.onew b ⟨id,o,sz,ho,hown,hg⟩ with h | h
   ·exact absurd hlt (Nat.not_lt.2 h)
   ·exact apart id' o' b sz' hid' ho' hown' hg' h
  intro id id' o o' b sz sz' ho ho' h1 h2 hg hg'
  rcases newAt id o ho with ⟨hid,k1⟩ | ⟨hid,k1⟩ <;> rcases newAt id' o' ho' with ⟨hid',k2⟩ | ⟨hid',k2⟩
  ·exact hr'.inj id id' o o' b sz sz' k1 k2 h1 h2 ((g2a id hid).symm.trans hg) ((g2a id' hid').symm.trans hg')
  ·exact (mix id id' o o' b sz sz' hid k1 h1 ((g2a id hid).symm.trans hg) hid' k2 h2 ((g2b id' hid').symm.trans hg')).elim
  ·exact (mix id' id o' o b sz' sz hid' k2 h2 ((g2a id' hid').symm.trans hg') hid k1 h1 ((g2b id hid).symm.trans hg)).elim
  ·exact hr.inj id id' o o' b sz sz' k1 k2 h1 h2 ((g2b id hid).symm.trans hg) ((g2b id' hid').symm.trans hg')
theorem HCall.frame {P:Program} {f:FuncId} {args:List AV} {H1 H1':List AO} {v:AV} (h:HCall P f args H1 v H1') (hlen:H1'.length=H1.length) (hb:∀ a∈args,Ko H1.length a) (hO:∀ o∈H1,XT H1.length o) (rest:List AO) :
  HCall P f args (H1 ++ rest) v (H1' ++ rest):=by
 refine ⟨h.1,fun c vs hH hr hv=>?_⟩
 have htake:c.H.take H1.length=H1:=by rw [hH]; simp
 have hr1:HRel ⟨c.w,c.S,c.γ,H1⟩:=by
  have:=DS hr H1.length (by rw [htake]; exact hO)
  rwa [htake] at this
 have hv1:RepL ⟨c.w,c.S,c.γ,H1⟩ vs args:=⟨hv.1,fun j hj=>by
  have hmem:args.getD j .any∈args:=by rw [List.getD_eq_getElem?_getD,List.getElem?_eq_getElem hj]; exact List.getElem_mem _
  have:=hb _ hmem c _ (hv.2 j hj)
  rwa [htake] at this⟩
 refine (h.2 ⟨c.w,c.S,c.γ,H1⟩ vs rfl hr1 hv1).mono ?_
 rintro e w' ⟨x,S',γ',rfl,hx,hr',hext⟩
 obtain ⟨γ2,k1,k2,k3⟩:=EL hH hr hlen hx hr' hext
 exact ⟨x,S',γ2,rfl,k1,k2,k3⟩
theorem C6 {X:Env} {M:Md} {o:Oper} {g:FuncId} {caps args as':List AV} {K:AS→Prop} {s:AS} {r:AV} {H1 H1' rest:List AO} (hb:M.hcall=true) (h:HCall X.P g as' H1 r H1') (hs:s.h=H1 ++ rest) (hlen:H1'.length=H1.length)
  (hbel:∀ a∈as',Ko H1.length a) (hO:∀ o∈H1,XT H1.length o) (hborn:∀ o∈H1,o≠.unborn) (hborn':∀ o∈H1',o≠.unborn) (hcon:Ed H1 H1') (ha:WeakL (args ++ caps) as')
  (hK:K (({ s with h:=H1' ++ rest }:AS).putO o.dst r)):Ec X M o (.fn g caps) args K s:=by
 have hdrop:s.h.drop H1.length=rest:=by rw [hs]; simp
 have hat:∀ id:Nat,s.h[id]?=some .unborn→¬ id<H1.length:=fun id hid hlt=>by
  rw [hs,List.getElem?_append_left hlt] at hid
  exact hborn _ (List.mem_of_getElem? hid) rfl
 have hfirst:∀ h2,WX s.h h2→h2=H1 ++ h2.drop H1.length:=by
  intro h2 ho
  have:h2.take H1.length=H1:=by
   apply List.ext_getElem?
   intro i
   rw [List.getElem?_take]
   by_cases hi:i<H1.length
   ·rw [if_pos hi,ho i (by rw [hs,List.getElem?_append_left hi]; intro e; exact hborn _ (List.mem_of_getElem? e) rfl),hs,List.getElem?_append_left hi]
   ·rw [if_neg hi,List.getElem?_eq_none (by omega)]
  conv=>lhs; rw [← List.take_append_drop H1.length h2,this]
 refine ⟨r,H1' ++ rest,⟨.inl g,caps,rfl,.inr (.inr ⟨hb,as',ha,fun h2=>H1' ++ h2.drop H1.length,fun h2 ho=>?_,by show H1' ++ s.h.drop H1.length=_; rw [hdrop],?_,?_,?_⟩)⟩,hK⟩
 ·have:=h.frame hlen hbel hO (h2.drop H1.length)
  rwa [← hfirst h2 ho] at this
 ·intro id v n f
  rw [hs]
  by_cases hi:id<H1.length
  ·rw [List.getElem?_append_left hi,List.getElem?_append_left (by omega)]; exact hcon id v n f
  ·rw [List.getElem?_append_right (by omega),List.getElem?_append_right (by omega),hlen]
 ·intro h2 id ob ho hid
  have hge:=hat id hid
  show H1' ++ (h2.set id ob).drop H1.length=(H1' ++ h2.drop H1.length).set id ob
  rw [List.set_append_right _ _ (by omega),hlen,List.drop_set,if_neg (by omega)]
 ·intro id hid
  have hge:=hat id hid
  rw [hs] at hid
  rw [List.getElem?_append_right (by omega)] at hid ⊢
  rw [hlen]; exact hid
def Ma (P:Program) (fn:Func) (str hcs:List Nat) (m:Nat) (r:AV) (H':List AO):Env:=⟨P,fn,str,hcs,m,none,[],none,fun v H=>v=r∧H.take m=H'⟩
@[simp] theorem resX_C (P:Program) (fn:Func) (str hcs:List Nat) (m:Nat) (r:AV) (H:List AO) (s:AS):UM (Ma P fn str hcs m r H) s=KQ P fn s:=rfl
theorem HCall.introC {P:Program} {f:FuncId} {fn:Func} {body:Code} (he:ZH P f) (hf:P.funcs[f]?=some fn) (hb:fn.body=some body) (hm:P.follows .mixedOrders=true) {args:List AV} {H H':List AO} {r:AV}
  (n0:Nat) (hid str hcs:List Nat) (hok:Qp fn.ntmps str hcs body=true) (hlen:args.length≤fn.ntmps) (hr:Ko H.length r) (hO:∀ o∈H',XT H.length o)
  (h:Run (Ma P fn str hcs H.length r H') [.code body] (AS.start n0 hid args H)):HCall P f args H r H':=by
 refine ⟨he,?_⟩
 rintro c vs rfl hrc hv
 refine Ax (X:=Ma P fn str hcs c.H.length r H') hf hb hm hok rfl hrc hv hlen h (fun p hp=>absurd hp (List.not_mem_nil)) ?_
 rintro v r' ⟨w',S',γ',H''⟩ h1 h2 h3 ⟨rfl,rfl⟩
 have hst:St 1 ⟨w',S',γ',H''⟩ { tmps:=#[v],defers:=[] } ⟨0,[],[],[(0,r')],H''⟩:=by
  refine ⟨rfl,rfl,fun i=>?_,rfl,h2⟩
  unfold AS.get
  simp only [Nat.not_lt_zero,if_false,Xq]
  split
  ·rename_i hi; subst hi; exact h1
  ·exact .any _
 obtain ⟨c',hw,hx,hst'⟩:=XD (b:=c.H.length) (m:=c.H.length) (s:=⟨0,[],[],[(0,r')],H''⟩) (s':=⟨0,[],[],[(0,r')],H''.take c.H.length⟩) (Nat.le_refl _) rfl trivial ⟨.inr rfl,trivial⟩ rfl (by simp) (by simp; exact hr) hO _ _ _ hst
 have hv':=hst'.slots 0
 have hH:=hst'.heap
 have hrel:=hst'.hrel
 obtain ⟨w2,S2,γ2,H2⟩:=c'
 cases hw
 cases hH
 refine ⟨v,S2,γ2,rfl,by simpa [AS.get,Xq] using hv',hrel,?_⟩
 exact (h3.trans hx).toExt (Nat.le_refl _)
def Kt (H:List AO) (a b:AV):Prop:=∀ (c:Ctx) (v:Value),c.H=H→HRel c→Rep c v a→Rep c v b
theorem Qc (H:List AO) (a:AV):Kt H a a:=fun _ _ _ _ h=>h
theorem Z4 {m:Nat} {s:AS} (id:Nat) {ver n:Nat} {f:Nat→AV} (g:Nat→AV) (ho:s.h[id]?=some (.row ver n f)) (hfg:∀ j,j<n→Kt s.h (f j) (g j)):Sub m s { s with h:=s.h.set id (.row ver n g) }:=by
 intro N c a hst
 have hH:=hst.heap
 rw [← hH] at ho hfg
 have hlt:=(List.getElem?_eq_some_iff.1 ho).1
 have hat:(c.H.set id (.row ver n g))[id]?=some (.row ver n g):=by simp [hlt]
 have hoth:∀ i,i≠id→(c.H.set id (AO.row ver n g))[i]?=c.H[i]?:=fun i hi=>List.getElem?_set_ne (Ne.symm hi)
 let c':Ctx:=⟨c.w,c.S,c.γ,c.H.set id (.row ver n g)⟩
 have hinf:∀ i,inf c'.H i=inf c.H i:=fun i=>by
  by_cases hi:i=id
  ·subst hi; simp [inf,c',hat,ho,AO.info]
  ·simp [inf,c',hoth i hi]
 have hdead:∀ i:Nat,c'.H[i]?=some AO.dead↔c.H[i]?=some AO.dead:=fun i=>by
  by_cases hi:i=id
  ·subst hi; simp [c',hat,ho]
  ·simp [c',hoth i hi]
 have hmap:∀ (i:Nat) k q,c.H[i]?=some (AO.map k q)↔c'.H[i]?=some (AO.map k q):=fun i k q=>by
  by_cases hi:i=id
  ·subst hi; simp [c',hat,ho]
  ·simp [c',hoth i hi]
 have hrep:∀ {v a},Rep c v a→Rep c' v a:=fun hv=>Si (c:=c) (c':=c') rfl rfl rfl hinf hdead (fun i k q=>(hmap i k q).1) hv
 have howns:∀ b,Z2 c' b→Z2 c b:=by
  rintro b ⟨i,o,sz,hoi,hown,hg⟩
  by_cases hi:i=id
  ·subst hi; exact ⟨i,_,sz,ho,rfl,hg⟩
  ·exact ⟨i,o,sz,by rw [← hoth i hi]; exact hoi,hown,hg⟩
 have hext:Ext c c':=by
  refine ⟨?_,fun b h=>h,fun b h=>.inl h,fun b h=>.inr (howns b h),fun _ _ _=>rfl,Nat.le_refl _,rfl,rfl,rfl⟩
  intro i o hoi
  have key:∀ v,inf c.H i=some v→(c'.H[i]?=some .dead∨∃ v',Ab.inf c'.H i=some v'∧(v<v'∨(v'=v∧c'.γ i=c.γ i))) :=
   fun v hv=>.inr ⟨v,by rw [hinf]; exact hv,.inr ⟨rfl,rfl⟩⟩
  cases o with
  | unborn=>trivial
  | dead=>exact (hdead i).2 hoi
  | row v _ _=>exact key v (by simp [inf,hoi,AO.info])
  | con v _ _=>exact key v (by simp [inf,hoi,AO.info])
  | map k q=>exact .inr ⟨⟨k,q,(hmap i k q).1 hoi⟩,rfl⟩
 refine ⟨c',rfl,hext.toB m,hst.size,hst.defers,fun i=>hrep (hst.slots i),by simp [c',hH],?_⟩
 refine ⟨?_,?_,?_,?_,hst.hrel.bound⟩
 ·intro i v k q hoi
  by_cases hi:i=id
  ·subst hi
   simp only [c'] at hoi
   rw [hat] at hoi; cases hoi
   rcases hst.hrel.row i ver n f ho with h | ⟨b,sz,cs,el,h1,h2,h3,h4,h5,h6⟩
   ·exact .inl h
   ·exact .inr ⟨b,sz,cs,el,h1,h2,h3,h4,h5,fun j hj=>hrep (hfg j hj c _ rfl hst.hrel (h6 j hj))⟩
  ·simp only [c'] at hoi
   rw [hoth i hi] at hoi
   rcases hst.hrel.row i v k q hoi with h | ⟨b,sz,cs,el,h1,h2,h3,h4,h5,h6⟩
   ·exact .inl h
   ·exact .inr ⟨b,sz,cs,el,h1,h2,h3,h4,h5,fun j hj=>hrep (h6 j hj)⟩
 ·intro i v k q hoi
  by_cases hi:i=id
  ·subst hi; simp only [c'] at hoi; rw [hat] at hoi; cases hoi
  ·simp only [c'] at hoi
   rw [hoth i hi] at hoi
   rcases hst.hrel.con i v k q hoi with h | ⟨b,sz,cs,el,fr,h1,h2,h3,h4,h5,h6⟩
   ·exact .inl h
   ·exact .inr ⟨b,sz,cs,el,fr,h1,h2,h3,h4,h5,fun j hj=>hrep (h6 j hj)⟩
 ·intro i k q hoi
  obtain ⟨b,sz,es,cl,h1,h2,h3,h4⟩:=hst.hrel.map i k q ((hmap i k q).2 hoi)
  exact ⟨b,sz,es,cl,h1,h2,h3,h4.ext fun v a hv=>hrep hv⟩
 ·intro i i' o o' b sz sz' hoi hoi' h1 h2 hg hg'
  have key:∀ (i:Nat) o,c'.H[i]?=some o→o.owned=true→∃ o2:AO,c.H[i]?=some o2∧o2.owned=true:=by
   intro i o hoi h
   by_cases hi:i=id
   ·subst hi; exact ⟨_,ho,rfl⟩
   ·exact ⟨o,by rw [← hoth i hi]; exact hoi,h⟩
  obtain ⟨o2,k1,k2⟩:=key i o hoi h1
  obtain ⟨o3,k3,k4⟩:=key i' o' hoi' h2
  exact hst.hrel.inj _ _ _ _ _ _ _ k1 k3 k2 k4 hg hg'
theorem Wq {P:Program} {fn:Func} {str hcs:List Nat} {m:Nat} {r v:AV} {H:List AO} {s:AS} {t u:Nat} (hr:fn.results=#[.cell t u]) (h:JK P false u (s.get t) s.h=some v) (e:v=r) (hH:s.h.take m=H):RetOk (Ma P fn str hcs m r H) s :=
 ⟨v,by simp [UM,KQ,Ma,hr,J6,Jj,ZD,h],e,hH⟩
section
variable (P:Program) (fn:Func) (str hcs:List Nat) (b:Nat) (r:AV) (H':List AO)
theorem rC:(Ma P fn str hcs b r H').P=P:=nrfl rfl
theorem gn:(Ma P fn str hcs b r H').str=str:=nrfl rfl
theorem gm:(Ma P fn str hcs b r H').hcs=hcs:=nrfl rfl
end
end
end Go.Ab
namespace Go.Ab
open Go Go.RowKit
noncomputable section
set_option linter.defProp false
def X1:=And.intro @nz <| And.intro @gY <| And.intro @gV <| And.intro @gX <| And.intro @gW <| And.intro @aI <| And.intro @Ud <| And.intro @um <| And.intro @p9 <| And.intro @ki <| And.intro @kf <| And.intro @kj <| And.intro @V3 <| And.intro @V4 <| And.intro @dG <| And.intro @kY <| And.intro @kX <| And.intro @dF <| And.intro @Tc <| And.intro @kh <| And.intro @kg <| And.intro @Td <| And.intro @dE <| And.intro @de <| And.intro @SQ <| And.intro @Tb <| And.intro @Ta <| And.intro @SR <| And.intro @SS <| And.intro @T9 <| And.intro @dC <| And.intro @P8 <| And.intro @dz <| And.intro @T7 <| And.intro @dp <| And.intro @kS <| And.intro @qM <| And.intro @dm <| And.intro @LS <| And.intro @dD <| And.intro @LR <| And.intro @WR <| And.intro @Ic <| And.intro @WV <| And.intro @NN <| And.intro @WU <| And.intro @T8 <| And.intro @NM <| And.intro @kU <| And.intro @kW <| And.intro @kV <| And.intro @T6 <| And.intro @dn <| And.intro @WS <| And.intro @WQ <| And.intro @kT <| And.intro @dw <| And.intro @T5 <| And.intro @WT <| And.intro @obind_some <| And.intro @obind_oif <| And.intro @H8 <| And.intro @Fx <| And.intro @IP <| And.intro @H7 <| And.intro @PD <| And.intro @Rf <| And.intro @N2 <| And.intro @PL <| And.intro @S5 <| And.intro @Nn <| And.intro @T3 <| And.intro @T2 <| And.intro @PO <| @RL
def wu:=And.intro @obind_some <| And.intro @obind_oif <| And.intro @H8 <| And.intro @Fx <| And.intro @IP <| And.intro @H7 <| And.intro @PD <| And.intro @Rf <| And.intro @N2 <| And.intro @PL <| And.intro @S5 <| And.intro @Nn <| And.intro @T3 <| And.intro @T2 <| And.intro @PO <| And.intro @RL <| And.intro @obind_none <| And.intro @nK <| And.intro @U0 <| And.intro @TZ <| And.intro @aB <| And.intro @PS <| And.intro @PT <| And.intro @rI <| And.intro @gD <| And.intro @mJ <| And.intro @nE <| And.intro @bS <| And.intro @bQ <| And.intro @mN <| And.intro @mm <| And.intro @mj <| And.intro @au <| And.intro @mr <| And.intro @fT <| And.intro @ms <| And.intro @rj <| And.intro @ri <| And.intro @IJ <| And.intro @Cc <| And.intro @gy <| And.intro @gx <| And.intro @rD <| And.intro @VK <| And.intro @gq <| And.intro @go <| And.intro @rC <| And.intro @gn <| And.intro @gm <| And.intro @dN <| And.intro @dZ <| And.intro @dV <| And.intro @dX <| And.intro @dY <| And.intro @dO <| And.intro @dW <| And.intro @dU <| And.intro @dT <| And.intro @dS <| And.intro @dP <| And.intro @Yd <| And.intro @Ye <| And.intro @lx <| And.intro @lu <| And.intro @eW <| And.intro @eU <| And.intro @nU <| And.intro @iP <| And.intro @nW <| And.intro @tH <| And.intro @nX <| And.intro @nV <| And.intro @Uu <| And.intro @YN <| And.intro @YO <| And.intro @aZ <| And.intro @TM <| And.intro @Um <| And.intro @YQ <| And.intro @fy <| And.intro @iu <| And.intro @YR <| And.intro @YP <| And.intro @bc <| And.intro @YF <| And.intro @TJ <| And.intro @YH <| And.intro @YI <| And.intro @YG <| And.intro @YJ <| And.intro @YK <| And.intro @BT <| And.intro @BS <| And.intro @kG <| And.intro @WI <| And.intro @bI <| And.intro @sk <| And.intro @uH <| And.intro @K7 <| And.intro @RS <| And.intro @ED <| And.intro @Yc <| @Yb
end
end Go.Ab
namespace Go.Ab
open Go Go.RowKit Go.ChangeShapes Go.WideShapes Go.ChangeAt
noncomputable section
variable {H:Type} {enc:TypeId×Value→H} {P:Program}
theorem O9 {W w':World} {S S':Nat→Prop} (hx:Ext (.bare W S) (.bare w' S')):Below W.heap.size W w' :=
 ⟨hx.os,hx.tape,hx.output,hx.size,fun _ hk=>hx.same _ hk AB⟩
def Vl (W:World):Nat→Prop:=fun b=>b<W.heap.size
theorem TK {f:FuncId} {as:List AV} (h:PureCall P f as (.bool true)) {W:World} {vs:Array Value} (hv:RepL (.bare W (Vl W)) vs as):Calls P f vs W fun e W'=>e=.returned (.bool true)∧Below W.heap.size W W':=by
 refine (h.2 W (Vl W) vs (fun _ h=>h) hv).mono ?_
 rintro e w' ⟨v,S',rfl,hr,_,hx⟩
 cases hr
 exact ⟨rfl,O9 hx⟩
theorem aO {n:Int} (h:(Lit.int .i64 n).wf=true):-9223372036854775808≤n∧n<9223372036854775808:=by
 have:IntKind.i64.min≤n∧n≤IntKind.i64.max:=by simpa [Lit.wf] using h
 have e1:IntKind.i64.min = -9223372036854775808:=by decide
 have e2:IntKind.i64.max=9223372036854775807:=by decide
 omega
theorem Uw {t e:TypeId} {r:Reach} {b0:Nat} {base:Nat} {sp:Nat→Bool} {held:Bool} {W:World} {v:Value} {d:DataW H} {ps:List MemPlace} (ht:P.underlying t=some (.slice e)) (he:P.underlying e=some (.int .i64)) (hc:P.cellsOf e=1)
  (hval:Value.okWide P W r b0 t v) (h:DataW.Trod enc P W base sp held t v d ps) :
  ∃ l:List Int,(∀ x∈l,-9223372036854775808≤x∧x<9223372036854775808)∧l.length≤maxLen∧Rep (.bare W (Vl W)) v (.sl l.length l.length (Qb I 0 l) false):=by
 obtain ⟨a0,len,cap,rfl⟩:=okWide_slice ht hval
 obtain ⟨fuel,hf⟩:=h
 rcases open_ints ht he hc hf with ⟨hcs,hx⟩ | ⟨a,len',cap',zs,hcs,_,hl,hm,hz,hx,hcell,hwz⟩
 ·simp [Value.cells] at hcs
  obtain ⟨rfl,rfl,rfl⟩:=hcs
  exact ⟨[],by simp,by simp,.slz _ _ _ _ (by simp)⟩
 ·simp [Value.cells] at hcs
  obtain ⟨rfl,rfl,rfl⟩:=hcs
  have hlen:len≤zs.length:=by rw [hz]; split <;> omega
  refine ⟨zs.take len,fun x hx=>aO (hwz x (List.mem_of_mem_take hx)),by rw [List.length_take]; exact Nat.le_trans (Nat.min_le_left _ _) (Nat.le_trans hl hm),?_⟩
  rw [List.length_take,Nat.min_eq_left hlen]
  rcases Nat.eq_zero_or_pos len with h0 | h0
  ·subst h0; exact .slz _ _ _ _ (by simp)
  ·have c0:=hcell 0 (by omega)
   have hsp:a.spot=none:=by
    unfold World.cell? at c0
    split at c0
    ·cases hs:a.spot with
     | none=>rfl
     | some s=>simp [Addr.add,hs] at c0
    ·cases c0
   obtain ⟨ab,ao,as⟩:=a
   simp only at hsp
   subst hsp
   have hb:ab<W.heap.size:=by
    unfold World.cell? at c0
    split at c0
    ·rename_i h; exact (Array.getElem?_eq_some_iff.1 h).1
    ·cases c0
   refine .sl ab ao len len cap _ false (fun j=>.int .i64 (zs.getD j 0)) hb (fun j hj=>?_) (fun j hj=>?_) hl (by simp)
   ·have:=hcell j (by omega)
    rwa [Addr.add_lit] at this
   ·have:(zs.take len).getD j 0=zs.getD j 0:=by simp [List.getD_eq_getElem?_getD,hj]
    rw [K7,this]
    exact .int _ _
theorem Es (hl:laidOutB P=true) {W W':World} {sp':Nat→Bool} (hb:Below W.heap.size W W'):∀ {ts:List TypeId} {vs:List Value} {ds:List (DataW H)} {p:List MemPlace},(∀ t∈ts,P.readableRec t=true∧t<P.types.size) →
  DataW.TrodAll enc P W 0 (fun _=>true) true ts vs ds p→(∀ x∈p,x.block<W.heap.size)→(∀ x∈p,sp' x.block=true)→DataW.TrodAll enc P W' 0 sp' true ts vs ds p
 | [],_,_,_,_,h,_,_=>by
  obtain ⟨rfl,rfl,rfl⟩:=trodAll_nil h
  exact trodAll_mk0
 | t :: ts,_,_,_,ht,h,hlt,hsp=>by
  obtain ⟨v,vs1,d,ds1,a,b,rfl,rfl,rfl,h1,h2⟩:=trodAll_cons h
  obtain ⟨r1,r2⟩:=ht t (by simp)
  exact trodAll_cons_mk (WideElems.Trod_stays hl r1 r2 h1 (fun x hx=>hb.same (hlt x (by simp [hx]))) (fun x hx=>hsp x (by simp [hx])))
   (Es hl hb (fun t' ht'=>ht t' (by simp [ht'])) h2 (fun x hx=>hlt x (by simp [hx])) (fun x hx=>hsp x (by simp [hx])))
theorem bM {f:Func} {s:ChangeSpec} {apart fresh handsOn again:Bool} {W W':World} {args:Array Value} {ds:List (DataW H)} {p:List MemPlace} {tb:TypeId} (hl:laidOutB P=true)
  (hW:DataW.Whole enc P f.params.toList s.vars apart W args.toList ds [] p) (hA:DataW.TrodAll enc P W 0 (fun _=>true) true f.params.toList args.toList ds p) (hv:s.vars=[])
  (hts:∀ t∈f.params.toList,P.readableRec t=true∧t<P.types.size) (hres:f.resultTypes=#[tb]) (hb:P.underlying tb=some .bool)
  (hfn:s.fn H (ds ++ [])={ results:=[.lit (.bool true)],args:=ds }) (hbel:Below W.heap.size W W'):s.post enc P f apart fresh handsOn again W args (.bool true) W':=by
 have hlt:∀ x∈p,x.block<W.heap.size:=fun x hx=>by simpa using hW.lt x hx
 have hargs:∀ sp:Nat→Bool,(∀ q∈p,sp q.block=true)→DataW.TrodAll enc P W' 0 sp true f.params.toList args.toList (s.fn H (ds ++ [])).args p:=fun sp hsp=>by
  rw [hfn]; exact Es hl hbel hts hA hlt hsp
 have hvars:∀ sp:Nat→Bool,DataW.TrodVars enc P W' sp s.vars (s.fn H (ds ++ [])).vars []:=fun sp=>by
  rw [hfn,hv]; rfl
 have hr:∀ (b:Nat) (sp:Nat→Bool) (hd:Bool),DataW.TrodAll enc P W' b sp hd f.resultTypes.toList ((Value.bool true).resultList f.resultTypes.size) (s.fn H (ds ++ [])).results []:=fun b sp hd=>by
  rw [hfn,hres]; exact trodAll_cons_mk (shut_bool hb _) trodAll_mk0
 have hold:∀ q∈p,(fun b=>decide (b<W.heap.size)) q.block=true:=fun q hq=>by simpa using hlt q hq
 refine ⟨ds,[],p,[],p,[],hW,hr _ _ _,hargs _ hold,hvars _,World.keptBut_mono (fun q hq=>⟨hq,.inr (.inl hq)⟩) (hbel.frame _),fun _=>?_⟩
 obtain ⟨_,_,_,_,_,hz,hn⟩:=hW
 refine ⟨ok_one (by rw [hres]) rfl (okWide_bool_mk hb _),_,_,([] ++ p) ++ [],⟨[] ++ p,[],trodAll_append (hargs _ (fun _ _=>rfl)) (hr _ _ _),hvars _,rfl,?_,?_⟩,?_⟩
 ·intro b off hp
  have hp':MemPlace.cell b off∈p:=by simpa using hp
  rw [hbel.frozen (p:=⟨b,off,none⟩) (hlt _ hp')]
  exact hz b off hp'
 ·intro ha
  simpa using hn ha
 ·intro q hq _
  simpa using hq
end
end Go.Ab
namespace Go.Ab
open Go Go.RowKit
noncomputable section
theorem I9 {m:Nat} {s:AS} (f:Nat→AV):Sub m s { s with h:=s.h ++ [AO.row 0 0 f] }:=by
 intro N c a hst
 have hH:=hst.heap
 have hset:(c.H ++ [AO.row 0 0 f])[c.H.length]?=some (.row 0 0 f):=by simp
 have hoth:∀ i,i≠c.H.length→(c.H ++ [AO.row 0 0 f])[i]?=c.H[i]?:=fun i hi=>by
  have:=ZQ (nid:=none) (h:=c.H) (o:=.row 0 0 f) i (by simpa [Qx] using hi)
  simpa [Kb] using this
 obtain ⟨g1,g2⟩:=G3 hst.hrel (id:=c.H.length) (ver:=0) (w:=c.w) hset hoth rfl (.inl (by simp))
 exact ⟨⟨c.w,c.S,K6 c.γ c.H.length none,c.H ++ [.row 0 0 f]⟩,rfl,g2.toB m,hst.size,hst.defers,fun j=>g2.rep hst.hrel (hst.slots j),by simp [hH],g1⟩
theorem Az {H:List AO} {id ver n M es:Nat} {f q:Nat→AV} (ho:H[id]?=some (.row ver n f)):Kt H (.sl 0 M q true) (.osl id ver es 0 0):=by
 intro c v hH _ hv
 have hinf:inf c.H id=some ver:=by simp [inf,hH,ho,AO.info]
 cases hv with
 | sl _ _ _ _ _ _ _ _ _ _ _ _ ht=>have:=ht rfl; subst this; exact .oslz _ _ _ _ _ hinf
 | slz _ _ _ _ ht=>have:=ht rfl; subst this; exact .oslz _ _ _ _ _ hinf
theorem oE (A:List AO) (b x y:AO) (id:Nat) (h:id<A.length):(A.set id x ++ [b]).set id y=(A ++ [b]).set id y:=by
 rw [List.set_append_left _ _ (by simpa using h),List.set_set,List.set_append_left _ _ h]
theorem F1 {m:Nat} {s:AS} (id es:Nat) {ver n M:Nat} {q:Nat→AV} (f:Nat→AV) (ho:s.h[id]?=some (.row ver n fun _=>.sl 0 M q true)):∀ k,k≤n →
  Sub m s { s with h:=(s.h ++ List.replicate k (AO.row 0 0 f)).set id (.row ver n fun j=>if j<k then .osl (s.h.length+j) 0 es 0 0 else .sl 0 M q true) }
 | 0,_=>by
  have e:(s.h ++ List.replicate 0 (AO.row 0 0 f)).set id (.row ver n fun j=>if j<0 then .osl (s.h.length+j) 0 es 0 0 else .sl 0 M q true)=s.h:=by
   simp only [List.replicate_zero,List.append_nil,Nat.not_lt_zero,if_false]
   refine List.ext_getElem? fun i=>?_
   by_cases hi:i=id
   ·subst hi; rw [ho]; have:=(List.getElem?_eq_some_iff.1 ho).1; simp [this]
   ·rw [List.getElem?_set_ne (Ne.symm hi)]
  rw [e]; exact Sub.rfl' _ _
 | k+1,hk=>by
  have hlt:=(List.getElem?_eq_some_iff.1 ho).1
  refine (F1 id es f ho k (by omega)).trans ((I9 f).trans ?_)
  have e1:(((s.h ++ List.replicate k (AO.row 0 0 f)).set id (.row ver n fun j=>if j<k then .osl (s.h.length+j) 0 es 0 0 else .sl 0 M q true)) ++ [AO.row 0 0 f])[id]?=some (.row ver n fun j=>if j<k then .osl (s.h.length+j) 0 es 0 0 else .sl 0 M q true):=by
   rw [List.getElem?_append_left (by simp; omega)]
   rw [List.getElem?_set_self (by simp; omega)]
  have e2:(((s.h ++ List.replicate k (AO.row 0 0 f)).set id (.row ver n fun j=>if j<k then .osl (s.h.length+j) 0 es 0 0 else .sl 0 M q true)) ++ [AO.row 0 0 f])[s.h.length+k]?=some (.row 0 0 f):=by
   rw [List.getElem?_append_right (by simp)]
   simp
  have:=Z4 (m:=m) (s:={ s with h:=((s.h ++ List.replicate k (AO.row 0 0 f)).set id (.row ver n fun j=>if j<k then .osl (s.h.length+j) 0 es 0 0 else .sl 0 M q true)) ++ [AO.row 0 0 f] }) id
   (fun j=>if j<k+1 then .osl (s.h.length+j) 0 es 0 0 else .sl 0 M q true) e1 (fun j hj=>by
    by_cases h1:j<k
    ·simp only [h1,if_true,show j<k+1 by omega]; exact Qc _ _
    ·by_cases h2:j=k
     ·subst h2
      simp only [Nat.lt_irrefl,if_false,show j<j+1 by omega,if_true]
      exact Az e2
     ·simp only [h1,if_false,show ¬ j<k+1 by omega]; exact Qc _ _)
  have e3:(((s.h ++ List.replicate k (AO.row 0 0 f)).set id (.row ver n fun j=>if j<k then .osl (s.h.length+j) 0 es 0 0 else .sl 0 M q true)) ++ [AO.row 0 0 f]).set id (.row ver n fun j=>if j<k+1 then .osl (s.h.length+j) 0 es 0 0 else .sl 0 M q true) =
    (s.h ++ List.replicate (k+1) (AO.row 0 0 f)).set id (.row ver n fun j=>if j<k+1 then .osl (s.h.length+j) 0 es 0 0 else .sl 0 M q true):=by
   rw [List.replicate_succ',← List.append_assoc]
   exact oE _ _ _ _ _ (by simp; omega)
  rw [← e3]
  exact this
theorem F2 {m:Nat} {s:AS} (i:Nat) (b:AV) (hi:i<s.n0) (hw:Kt s.h (s.sl.getD i .any) b):Sub m s { s with sl:=s.sl.set i b }:=by
 intro N c a hst
 refine ⟨c,rfl,(Ext.refl c).toB m,hst.size,hst.defers,fun j=>?_,hst.heap,hst.hrel⟩
 have:=hst.slots j
 unfold AS.get at this ⊢
 by_cases hj:j<s.n0
 ·simp only [hj,if_true] at this ⊢
  by_cases he:j=i
  ·subst he
   by_cases hl:j<s.sl.length
   ·rw [List.getD_eq_getElem?_getD,List.getElem?_set_self hl]; exact hw _ _ hst.heap hst.hrel this
   ·rw [List.set_eq_of_length_le (by omega)]; exact this
  ·rw [List.getD_eq_getElem?_getD,List.getElem?_set_ne (Ne.symm he),← List.getD_eq_getElem?_getD]; exact this
 ·simp only [hj,if_false] at this ⊢; exact this
theorem B8 {H:List AO} {id ver es n k M:Nat} {f g:Nat→AV} (ho:H[id]?=some (.con ver k f)) (hle:M≤k) (hM:n=0→M=0) (hg:∀ j,j<M→Kt H (f j) (g j)):Kt H (.osl id ver es 0 n) (.sl n M g false):=by
 rintro c v rfl hr h
 have hinf:inf c.H id=some ver:=by simp [inf,ho,AO.info]
 have hns:¬ stale c.H id ver:=by
  rintro (⟨v',hi,hlt⟩ | hd)
  ·rw [hinf] at hi; cases hi; omega
  ·simp [inf,hd,AO.info] at hinf
 have hz:n=0→∀ b cap,Rep c (.slice b 0 cap) (.sl n M g false):=by
  rintro hn b cap
  rw [hn,hM hn]
  exact .slz _ _ _ _ (by simp)
 cases h with
 | osl _ _ _ _ _ cap b sz hi hgm hn hcap =>
  rcases hr.con id ver k f ho with ⟨h1,h2⟩ | ⟨b',sz',cs,el,fr,h1,h2,h3,h4,h5,h6⟩
  ·rw [h1] at hgm; cases hgm
  ·rw [h1] at hgm; cases hgm
   refine .sl b 0 n M cap g false (fun j=>cs.getD j undef) h5 (fun j hj=>?_) (fun j hj=>hg j hj c _ rfl hr (h6 j (by omega))) hn (by simp)
   rw [cell_of_row c.w b _ cs el fr h2]
   have hlt:j<cs.size:=by omega
   simp [hlt,Array.getD]
 | oslz _ _ _ _ b hi=>exact hz rfl b 0
 | oslOld _ _ _ _ _ b cap hn hs=>exact absurd hs hns
 | oslzOld _ _ _ _ b hs=>exact absurd hs hns
theorem QJ {α:Type} (l:List α) (d:α) (j:Nat) (h:j<l.length):l.take (j+1)=l.take j ++ [l.getD j d]:=by
 rw [List.take_succ_eq_append_getElem h,List.getD_eq_getElem?_getD,List.getElem?_eq_getElem h]; rfl
theorem Ju {α:Type} {l:List α} {d:α} {j:Nat} (h:j<l.length):l.getD j d∈l:=by
 rw [List.getD_eq_getElem?_getD,List.getElem?_eq_getElem h]; exact List.getElem_mem _
theorem wj (j:Nat) (h:j<4611686018427387904):IntKind.i64.wrap ((j:Int)+1)=((j+1:Nat):Int):=by rw [IntKind.wrap_i64]; omega
theorem kv {n n' m m':Nat} {f f':Nat→AV} {t:Bool} (hn:n=n') (hm:m'≤m) (hf:∀ j,j<m'→f j=f' j):Weak (.sl n m f t) (.sl n' m' f' false):=by subst hn; exact OZ hm hf
theorem AA {α:Type} (l:List α) (d:α) (i j:Nat) (h:i<j):(l.take j).getD i d=l.getD i d:=by
 simp [List.getD_eq_getElem?_getD,List.getElem?_take,h]
theorem Xv {P:Program} {fn:Func} {str hcs:List Nat} {r v:AV} {s:AS} {t:Nat} (hr:fn.results=#[.tmp t]) (h:s.get t=v) (hs:Settled r) (e:v=r):RetOk (QS P fn str hcs r) s :=
 BU hr (QE hs (h.trans e))
theorem Sk {P:Program} {fn:Func} {str hcs:List Nat} {a b x y:AV} {s:AS} {t u:Nat} (hr:fn.results=#[.tmp t,.tmp u]) (h1:s.get t=x) (h2:s.get u=y) (s1:Settled a) (s2:Settled b) (e1:x=a) (e2:y=b) :
  RetOk (QS P fn str hcs (.tup [a,b])) s:=jv hr (B6 ⟨QE s1 (h1.trans e1),QE s2 (h2.trans e2),trivial⟩)
theorem QU {h h':List AO} (h1:∀ o∈h,∀ v n f,o≠.con v n f) (h2:∀ o∈h',∀ v n f,o≠.con v n f):Ed h h':=by
 intro id v n f
 constructor
 ·intro h; exact absurd rfl (h1 _ (List.mem_of_getElem? h) v n f)
 ·intro h; exact absurd rfl (h2 _ (List.mem_of_getElem? h) v n f)
theorem DH {n n' m m':Nat} {f f':Nat→AV} {t:Bool} (hn:n=n') (hm:m'≤m) (hf:∀ j,j<m'→Weak (f j) (f' j)):Weak (.sl n m f t) (.sl n' m' f' false):=fun c v h=>by
 subst hn
 cases h with
 | sl b base _ _ cap _ _ us hS hc hr hn ht=>exact .sl b base n m' cap f' false us hS (fun j hj=>hc j (by omega)) (fun j hj=>hf j hj c _ (hr j (by omega))) hn (by simp)
 | slz a cap _ _ ht =>
  obtain rfl:m'=0:=by omega
  exact .slz _ _ _ _ (by simp)
theorem XK {H:List AO} {a b:AV} (h:Settled b) (hw:Weak a b):JH H a b:=fun c v hH hr hv=>h.sees H c v hH hr (hw c v hv)
theorem G7 (l:List Int) {n m:Nat} {f:Nat→AV} {t:Bool} (h1:n=l.length) (h2:l.length≤m) (hf:∀ j,j<l.length→f j=I (l.getD j 0)):Weak (.sl n m f t) (X4 l) :=
 kv h1 h2 hf
theorem UR {l:List Int} {H:List AO} {a:AV} {id ver n m:Nat} {g:Nat→AV} (ha:a=.osl id ver 1 0 m) (ho:H[id]?=some (.row ver n g)) (hm:m=l.length) (hn:l.length≤n) (hg:∀ j,j<l.length→g j=I (l.getD j 0)):JH H a (X4 l):=by
 subst ha; subst hm
 exact Jk (.inl ho) (by omega) (by omega) fun j hj=>by rw [Nat.zero_add,hg j hj]; exact (X9 _).sees H
theorem uR (m:Nat) (n:Int):Ko m (I n):=X7 (X9 n)
theorem G8 (L:List Int) (t:Bool):Weak (.sl L.length L.length (Xk (L.map I)) t) (X4 L):=DH rfl (Nat.le_refl _) fun j hj=>by
 have:Xk (L.map I) j=I (L.getD j 0):=by
  unfold Xk
  simp [List.getD_eq_getElem?_getD,hj]
 rw [this]; exact Weak.rfl' _
theorem SL {m:Nat} {s:AS} (i:Nat) (b:AV) (hi:i<s.n0) (hw:Weak (s.sl.getD i .any) b):Sub m s { s with sl:=s.sl.set i b }:=by
 intro N c a hst
 refine ⟨c,rfl,(Ext.refl c).toB m,hst.size,hst.defers,fun j=>?_,hst.heap,hst.hrel⟩
 have:=hst.slots j
 unfold AS.get at this ⊢
 by_cases hj:j<s.n0
 ·simp only [hj,if_true] at this ⊢
  by_cases he:j=i
  ·subst he
   by_cases hl:j<s.sl.length
   ·rw [List.getD_eq_getElem?_getD,List.getElem?_set_self hl]; exact hw _ _ this
   ·rw [List.set_eq_of_length_le (by omega)]; exact this
  ·rw [List.getD_eq_getElem?_getD,List.getElem?_set_ne (Ne.symm he),← List.getD_eq_getElem?_getD]; exact this
 ·simp only [hj,if_false] at this ⊢; exact this
theorem SX (a:AV):Weak a .any:=fun _ v _=>.any v
theorem kw {l m:List AV} (h:WeakL l m):Weak (.tup l) (.tup m):=fun c v hv=>by
 cases hv with
 | tup vs _ hs hr =>
  obtain ⟨e,h'⟩:=h.spec (c:=c)
  exact .tup vs m (by omega) fun j hj=>h' j (by omega) _ (hr j (by omega))
def ZO (n:Int):Prop:=-9223372036854775808≤n∧n<9223372036854775808
def Zn (n m:Int):Int:=(if n<0 then -(n+1) else n).tmod m
theorem M3 (n m:Int) (h:0<m):0≤Zn n m∧Zn n m<m:=by
 unfold Zn
 have:0≤(if n<0 then -(n+1) else n):=by split <;> omega
 generalize (if n<0 then -(n+1) else n)=x at this
 rw [Int.tmod_eq_emod_of_nonneg this]
 exact ⟨Int.emod_nonneg _ (by omega),Int.emod_lt_of_pos _ h⟩
def atF (l:List Int) (i m:Int):Int:=if i<0∨l.length≤i then 0 else Zn (l.getD i.toNat 0) m
theorem XR (l:List Int) (i m:Int) (h:0<m):0≤atF l i m∧atF l i m<m:=by
 unfold atF
 split
 ·omega
 ·exact M3 _ _ h
def GV (l:List Int):Prop:=∀ x∈l,ZO x
theorem eK {l:List Int} (h:GV l) (i:Nat):ZO (l.getD i 0):=by
 rw [List.getD_eq_getElem?_getD]
 cases hx:l[i]? with
 | none=>exact ⟨by decide,by decide⟩
 | some x=>exact h x (List.mem_of_getElem? hx)
theorem IU {n:Int} (h1:-1000≤n) (h2:n≤1000):ZO n:=⟨by omega,by omega⟩
theorem JP (g:FuncId):Settled (.fn g []):=Jb (by simp)
theorem FQ {P:Program} {fn:Func} {str hcs:List Nat} {r v:AV} {s:AS} {t u:Nat} (hr:fn.results=#[.cell t u]) (h:JK P false u (s.get t) s.h=some v) (hs:JH s.h v r):RetOk (QS P fn str hcs r) s :=
 ⟨v,by simp [KQ,IJ,Cc,hr,J6,Jj,ZD,h],hs⟩
end
end Go.Ab
namespace Go.Ab
open Go Go.RowKit
noncomputable section
set_option linter.defProp false
section
variable {α β:Type}
theorem kN (a:α) (l:List α) (n:Nat) (d:α):(a :: l).getD (n+1) d=l.getD n d:=nrfl rfl
theorem kO (a:α) (l:List α) (d:α):(a :: l).getD 0 d=a:=nrfl rfl
theorem qJ (a b:α) (l:List α) (n:Nat):(a :: l).set (n+1) b=a :: l.set n b:=nrfl rfl
theorem qK (a b:α) (l:List α):(a :: l).set 0 b=b :: l:=nrfl rfl
theorem qD (f:α→β) (a:α) (l:List α):(a :: l).map f=f a :: l.map f:=nrfl rfl
theorem qE (f:α→β):([]:List α).map f=[]:=nrfl rfl
theorem qo (f:α→Bool) (a:α) (l:List α):(a :: l).all f=(f a && l.all f):=nrfl (List.all_cons ..)
theorem qp (f:α→Bool):([]:List α).all f=true:=nrfl (List.all_nil ..)
theorem qz (a:α) (l:List α):(a :: l).length=l.length+1:=nrfl rfl
theorem qB:([]:List α).length=0:=nrfl rfl
theorem qq (a:α) (l m:List α):(a :: l) ++ m=a :: (l ++ m):=nrfl rfl
theorem qu (m:List α):[] ++ m=m:=nrfl rfl
theorem qr (l:List α):l ++ []=l:=nrfl (List.append_nil l)
theorem qx (a:α) (l:List α) (n:Nat):(a :: l)[n+1]?=l[n]?:=nrfl rfl
theorem qy (a:α) (l:List α):(a :: l)[0]?=some a:=nrfl rfl
theorem qG (a:α) (n:Nat):List.replicate (n+1) a=a :: List.replicate n a:=nrfl rfl
theorem qI (a:α):List.replicate 0 a=[]:=nrfl rfl
theorem qv (a b:Nat) (l:List Nat):(a :: l).contains b=(b == a || l.contains b):=nrfl (List.contains_cons ..)
theorem qw (b:Nat):([]:List Nat).contains b=false:=nrfl rfl
theorem kR (f:α→β) (a:α):(some a).map f=some (f a):=nrfl rfl
theorem kQ (f:α→β):(none:Option α).map f=none:=nrfl rfl
theorem qF (a:α):(some a).isSome=true:=nrfl rfl
end
theorem uG:(0:Int).toNat=0:=nrfl rfl
theorem uF:(1:Int).toNat=1:=nrfl rfl
theorem uE (n:Nat):(n:Int).toNat=n:=nrfl rfl
theorem sb (i:Nat) (v:AV) (l:List (Nat×AV)) (j:Nat):Xq ((i,v) :: l) j=if j=i then v else Xq l j:=nrfl rfl
theorem oq (i:Nat) (v:AV) (l:List (Nat×AV)) (d:Nat) (u:AV):Lj ((i,v) :: l) d u=if d=i then (i,u) :: l else (i,v) :: Lj l d u:=nrfl rfl
theorem mL (hid:List Nat) (i:Nat) (v:AV) (l:List (Nat×AV)):H3 hid ((i,v) :: l)=if hid.contains i=true then (i,v) :: H3 hid l else H3 hid l:=nrfl rfl
theorem mM (hid:List Nat):H3 hid []=[]:=nrfl rfl
theorem fR (hc:Bool) (o:Oper) (os:List Oper):EF hc (o :: os)=(if Qu hc o.op=2 then 1 else 0)+EF hc os:=nrfl rfl
theorem fS (hc:Bool):EF hc []=0:=nrfl rfl
section
variable (hc:Bool)
theorem fL (x:Operand):Qu hc (.move x)=0:=nrfl rfl
theorem TP (x:Operand):Qu hc (.assign x)=0:=nrfl rfl
theorem fM (x y z:Operand):Qu hc (.pick x y z)=0:=nrfl rfl
theorem Oe (x:Operand):Qu hc (.nilCheck x)=0:=nrfl rfl
theorem mn (o:BinOp) (t:TypeId) (x y:Operand) (u:TypeId):Qu hc (.binOp o t x y u)=0:=nrfl rfl
theorem rg (o:UnOp) (t:TypeId) (x:Operand):Qu hc (.unOp o t x)=0:=nrfl rfl
theorem fI (t u:TypeId) (x:Operand):Qu hc (.convert t u x)=0:=nrfl rfl
theorem M7 (t:TypeId) (x:Operand) (j:Nat):Qu hc (.fieldAddr t x j)=0:=nrfl rfl
theorem M8 (t:TypeId) (x y:Operand):Qu hc (.indexAddr t x y)=0:=nrfl rfl
theorem PH (x:Operand) (j:Nat):Qu hc (.extract x j)=0:=nrfl rfl
theorem ag (t:TypeId) (x:Operand) (a b c:Option Operand):Qu hc (.slice t x a b c)=0:=nrfl rfl
theorem aa (t:TypeId) (ps:Array (Nat×Operand)):Qu hc (.build t ps)=0:=nrfl rfl
theorem Iy (t:TypeId) (n:Nat) (ps:Array (Nat×Operand)):Qu hc (.buildSlice t n ps)=0:=nrfl rfl
theorem fJ (t:TypeId) (x:Operand):Qu hc (.load t x)=1:=nrfl rfl
theorem YZ (t:TypeId):Qu hc (.alloc t)=2:=nrfl rfl
theorem fK (t:TypeId) (x y:Operand):Qu hc (.makeSlice t x y)=2:=nrfl rfl
theorem ah (t:TypeId) (x y:Operand):Qu hc (.store t x y)=3:=nrfl rfl
theorem mo (a:Array Operand) (ts:Array TypeId):Qu hc (.call { callee:=.builtin .len,args:=a,argTypes:=ts })=0:=nrfl rfl
theorem TO (a:Array Operand) (ts:Array TypeId):Qu hc (.call { callee:=.builtin .append,args:=a,argTypes:=ts })=3:=nrfl rfl
theorem ae (f:Operand) (a:Array Operand) (ts:Array TypeId):Qu true (.call { callee:=.value f,args:=a,argTypes:=ts })=3:=nrfl rfl
theorem ac (f:Operand) (a:Array Operand) (ts:Array TypeId):Qu false (.call { callee:=.value f,args:=a,argTypes:=ts })=1:=nrfl rfl
end
section
variable (P:Program) (st:Bool) (t:TypeId) (h:List AO)
theorem xo (m:Nat) (f:Nat→AV) (off:Nat):rd none m f off=Qd (off<m) (some (f off)):=nrfl rfl
theorem tP (n m:Nat) (f:Nat→AV) (off:Nat):rd (some n) m f off=Qd (off+n≤m) (some (.agg (Qz f off 0 n))):=nrfl rfl
theorem PF (f:Nat→AV) (off j:Nat):Qz f off j 0=[]:=nrfl rfl
theorem PE (f:Nat→AV) (off j n:Nat):Qz f off j (n+1)=f (off+j) :: Qz f off (j+1) n:=nrfl rfl
theorem uf (f:Nat→AV) (i:Nat):HH f i []=f:=nrfl rfl
theorem ue (f:Nat→AV) (i:Nat) (v:AV) (l:List AV):HH f i (v :: l)=HH (C1 f i v) (i+1) l:=nrfl rfl
def Tr (k:Option (Option Nat)) (st:Bool) (a:AV) (h:List AO):Option AV :=
 match k with
 | none=>none
 | some k =>
  match a with
  | .ptr m f off=>rd k m f off
  | .ref id ver off =>
   match h[id]? with
   | some (.row v m f)=>Qd (st=false∧v=ver) (rd k m f off)
   | some (.con v m f)=>Qd (v=ver) (rd k m f off)
   | _=>none
  | _=>none
theorem O0 (a:AV):JK P st t a h=Tr (BD P t) st a h:=nrfl rfl
def Tt (k:Option Nat) (st:Bool) (ver off:Nat) (o:Option AO):Option AV :=
 match o with
 | some (.row v m f)=>Qd (st=false∧v=ver) (rd k m f off)
 | some (.con v m f)=>Qd (v=ver) (rd k m f off)
 | _=>none
variable (k:Option Nat)
theorem Ts (m:Nat) (f:Nat→AV) (off:Nat):Tr (some k) st (.ptr m f off) h=rd k m f off:=nrfl rfl
theorem Ey (id ver off:Nat):Tr (some k) st (.ref id ver off) h=Tt k st ver off h[id]?:=nrfl rfl
theorem Ez (ver off v m:Nat) (f:Nat→AV):Tt k st ver off (some (.row v m f))=Qd (st=false∧v=ver) (rd k m f off):=nrfl rfl
theorem Tu (ver off v m:Nat) (f:Nat→AV):Tt k st ver off (some (.con v m f))=Qd (v=ver) (rd k m f off):=nrfl rfl
theorem jK (v:AV):KX true v=v.cells.map AV.boxed:=nrfl rfl
theorem jJ (v:AV):KX false v=v.cells.map AV.loose:=nrfl rfl
def Vq (st:Bool) (ts:Option Nat) (id ver off:Nat) (v:AV) (h:List AO) (o:Option AO):Option (List AO) :=
 match o with
 | some (.row v' m f)=>Qd (v'=ver∧ts=some v.cells.length∧v.cells≠[]∧off+v.cells.length≤m∧v.cells.all AV.one=true) (some (h.set id (.row v' m (HH f off (KX st v)))))
 | _=>none
theorem TG (id ver off:Nat) (v:AV):AE P st t (.ref id ver off) v h=Vq st (Z5 P t) id ver off v h h[id]?:=nrfl rfl
theorem Px (ts:Option Nat) (id ver off:Nat) (v:AV) (v' m:Nat) (f:Nat→AV):Vq st ts id ver off v h (some (.row v' m f)) =
  Qd (v'=ver∧ts=some v.cells.length∧v.cells≠[]∧off+v.cells.length≤m∧v.cells.all AV.one=true) (some (h.set id (.row v' m (HH f off (KX st v))))):=nrfl rfl
def Fa (e:Option (TypeId×Nat×Nat)) (P:Program) (t:TypeId) (x:AV) (i:Int):Option AV :=
 match e with
 | some (_,s,_) =>
  match x with
  | .sl n m f _=>Qd (0≤i∧i<n) (some (.ptr m f (i.toNat*s)))
  | .osl id ver _ off n=>Qd (0≤i∧i<n) (some (.ref id ver (off+i.toNat*s)))
  | _=>none
 | none =>
  match Yx P t with
  | some (n,s,_) =>
   match x with
   | .ptr m f off=>Qd (0≤i∧i<n) (some (.ptr m f (off+i.toNat*s)))
   | .ref id ver off=>Qd (0≤i∧i<n) (some (.ref id ver (off+i.toNat*s)))
   | _=>none
  | none=>none
def fe (r:Option (Nat×Nat×Option Nat)) (x:AV):Option AV :=
 match r with
 | some (n,_,_) =>
  match x with
  | .sl m k f _=>Qd (0<n∧n≤m) (some (.ptr k f 0))
  | .osl id ver _ off m=>Qd (0<n∧n≤m) (some (.ref id ver off))
  | _=>none
 | none=>none
theorem ll (x:AV):MA P t x=fe (Yx P t) x:=nrfl rfl
theorem TE (n s id ver es off m:Nat) (j:Option Nat):fe (some (n,s,j)) (.osl id ver es off m)=Qd (0<n∧n≤m) (some (.ref id ver off)):=nrfl rfl
theorem eI (x:AV) (k:IntKind) (i:Int):Ev P t x (.int k i)=Fa (Aq P t) P t x i:=nrfl (by
 unfold Ev Fa; first | rfl | (cases Aq P t <;> first | rfl | (cases x <;> rfl) | (cases Yx P t <;> first | rfl | (cases x <;> rfl))))
def Vi (a:Option (Nat×Nat×Option Nat)) (x:AV) (i:Int):Option AV :=
 match a with
 | some (n,s,_) =>
  match x with
  | .ptr m f off=>Qd (0≤i∧i<n) (some (.ptr m f (off+i.toNat*s)))
  | .ref id ver off=>Qd (0≤i∧i<n) (some (.ref id ver (off+i.toNat*s)))
  | _=>none
 | none=>none
theorem Tn (e s b n m:Nat) (f:Nat→AV) (q:Bool) (i:Int):Fa (some (e,s,b)) P t (.sl n m f q) i=Qd (0≤i∧i<n) (some (.ptr m f (i.toNat*s))):=nrfl rfl
theorem Pk (e s b id ver es off n:Nat) (i:Int):Fa (some (e,s,b)) P t (.osl id ver es off n) i=Qd (0≤i∧i<n) (some (.ref id ver (off+i.toNat*s))):=nrfl rfl
theorem NW (x:AV) (i:Int):Fa none P t x i=Vi (Yx P t) x i:=nrfl rfl
theorem Pj (n s:Nat) (q:Option Nat) (id ver off:Nat) (i:Int):Vi (some (n,s,q)) (.ref id ver off) i=Qd (0≤i∧i<n) (some (.ref id ver (off+i.toNat*s))):=nrfl rfl
def Ie (k:Option (Nat×Nat×Option Nat)) (x:AV):Option AV :=
 match k with
 | some (o,_,_) =>
  match x with
  | .ptr m f off=>some (.ptr m f (off+o))
  | .ref id ver off=>some (.ref id ver (off+o))
  | _=>none
 | none=>none
theorem Yk (x:AV) (i:Nat):DK P t x i=Ie (CP P t i) x:=nrfl rfl
theorem NT (o s:Nat) (q:Option Nat) (m:Nat) (f:Nat→AV) (off:Nat):Ie (some (o,s,q)) (.ptr m f off)=some (.ptr m f (off+o)):=nrfl rfl
theorem NU (o s:Nat) (q:Option Nat) (id ver off:Nat):Ie (some (o,s,q)) (.ref id ver off)=some (.ref id ver (off+o)):=nrfl rfl
theorem ie (d:Int):J9 none d=some d:=nrfl rfl
theorem ig (k:IntKind) (n d:Int):J9 (some (.int k n)) d=some n:=nrfl rfl
def HO (e:Option (TypeId×Nat×Nat)) (x:AV) (lo hi mx:Option AV):Option AV :=
 match e,mx with
 | some (_,s,_),none =>
  match x with
  | .sl n m f t =>
   match J9 lo 0,J9 hi n with
   | some l,some h=>Qd (0≤l∧l≤h∧h≤n) (some (.sl (h - l).toNat (min ((h - l).toNat*s) (m - l.toNat*s)) (fun j=>f (l.toNat*s+j)) (t && decide (h=n))))
   | _,_=>none
  | .osl id ver es off n =>
   match J9 lo 0,J9 hi n with
   | some l,some h=>Qd (0≤l∧l≤h∧h≤n∧es=s) (some (.osl id ver es (off+l.toNat*s) (h - l).toNat))
   | _,_=>none
  | _=>none
 | some (_,s,_),some mx =>
  match x with
  | .sl n m f _ =>
   match J9 lo 0,J9 hi n,mx with
   | some l,some h,.int _ q=>Qd (0≤l∧l≤h∧h≤n∧q=h) (some (.sl (h - l).toNat (min ((h - l).toNat*s) (m - l.toNat*s)) (fun j=>f (l.toNat*s+j)) true))
   | _,_,_=>none
  | _=>none
 | _,_=>none
theorem ff (x:AV) (lo hi mx:Option AV):CU P t x lo hi mx=HO (Aq P t) x lo hi mx:=nrfl rfl
def Vo (s n m:Nat) (f:Nat→AV) (t:Bool) (a b:Option Int):Option AV :=
 match a,b with
 | some l,some h=>Qd (0≤l∧l≤h∧h≤n) (some (.sl (h - l).toNat (min ((h - l).toNat*s) (m - l.toNat*s)) (fun j=>f (l.toNat*s+j)) (t && decide (h=n))))
 | _,_=>none
def Vn (s id ver es off n:Nat) (a b:Option Int):Option AV :=
 match a,b with
 | some l,some h=>Qd (0≤l∧l≤h∧h≤n∧es=s) (some (.osl id ver es (off+l.toNat*s) (h - l).toNat))
 | _,_=>none
def Vp (s n m:Nat) (f:Nat→AV) (a b:Option Int) (mx:AV):Option AV :=
 match a,b,mx with
 | some l,some h,.int _ q=>Qd (0≤l∧l≤h∧h≤n∧q=h) (some (.sl (h - l).toNat (min ((h - l).toNat*s) (m - l.toNat*s)) (fun j=>f (l.toNat*s+j)) true))
 | _,_,_=>none
theorem TF (e s b n m:Nat) (f:Nat→AV) (q:Bool) (lo hi:Option AV):HO (some (e,s,b)) (.sl n m f q) lo hi none=Vo s n m f q (J9 lo 0) (J9 hi n):=nrfl rfl
theorem Pv (e s b id ver es off n:Nat) (lo hi:Option AV):HO (some (e,s,b)) (.osl id ver es off n) lo hi none=Vn s id ver es off n (J9 lo 0) (J9 hi n):=nrfl rfl
theorem Pw (e s b n m:Nat) (f:Nat→AV) (q:Bool) (lo hi:Option AV) (mx:AV):HO (some (e,s,b)) (.sl n m f q) lo hi (some mx)=Vp s n m f (J9 lo 0) (J9 hi n) mx:=nrfl rfl
theorem Yz (s n m:Nat) (f:Nat→AV) (q:Bool) (l h:Int):Vo s n m f q (some l) (some h)=Qd (0≤l∧l≤h∧h≤n) (some (.sl (h - l).toNat (min ((h - l).toNat*s) (m - l.toNat*s)) (fun j=>f (l.toNat*s+j)) (q && decide (h=n)))):=nrfl rfl
theorem Yy (s id ver es off n:Nat) (l h:Int):Vn s id ver es off n (some l) (some h)=Qd (0≤l∧l≤h∧h≤n∧es=s) (some (.osl id ver es (off+l.toNat*s) (h - l).toNat)):=nrfl rfl
theorem YB (s n m:Nat) (f:Nat→AV) (l h:Int) (k:IntKind) (q:Int):Vp s n m f (some l) (some h) (.int k q)=Qd (0≤l∧l≤h∧h≤n∧q=h) (some (.sl (h - l).toNat (min ((h - l).toNat*s) (m - l.toNat*s)) (fun j=>f (l.toNat*s+j)) true)):=nrfl rfl
theorem lg (n m:Nat) (f:Nat→AV) (q:Bool):To P t (.sl n m f q)=Qd ((Aq P t).isSome=true) (some (.int .i64 n)):=nrfl rfl
theorem eJ (a b c d n:Nat):To P t (.osl a b c d n)=Qd ((Aq P t).isSome=true) (some (.int .i64 n)):=nrfl rfl
def e9 (a b:Option IntKind) (x:AV):Option AV :=
 match a,b,x with
 | some _,some k,.int _ n=>some (.int k (k.wrap n))
 | _,_,_=>none
theorem l9 (u:TypeId) (x:AV):Mu P t u x=e9 (aR P t) (aR P u) x:=nrfl rfl
theorem ee (a k q:IntKind) (n:Int):e9 (some a) (some k) (.int q n)=some (.int k (k.wrap n)):=nrfl rfl
theorem se (o:AO):Kb none h o=h ++ [o]:=nrfl rfl
theorem sf (id:Nat) (o:AO):Kb (some id) h o=h.set id o:=nrfl rfl
theorem oa:Qx none h=h.length:=nrfl rfl
theorem oc (id:Nat):Qx (some id) h=id:=nrfl rfl
variable (nid:Option Nat)
def Vb (z:Option (List AV)) (nid:Option Nat) (h:List AO):Option (AV×List AO) :=
 match z with
 | some z=>some (.ref (Qx nid h) 0 0,Kb nid h (.row 0 z.length (Xk z)))
 | none=>none
theorem dJ:ZI P nid t h=Vb (QF P t) nid h:=nrfl rfl
theorem Y0 (z:List AV):Vb (some z) nid h=some (.ref (Qx nid h) 0 0,Kb nid h (.row 0 z.length (Xk z))):=nrfl rfl
theorem qP (v:AV):LW nid v h=Qd (v.cells.all AV.one=true) (some (.ref (Qx nid h) 0 0,Kb nid h (.row 0 v.cells.length (Xk (v.cells.map AV.boxed))))):=nrfl rfl
def Tw (e:Option (TypeId×Nat×Nat)) (P:Program) (nid:Option Nat) (n m:Int) (h:List AO):Option (AV×List AO) :=
 match e with
 | some (e,s,by_) =>
  match QF P e with
  | some z=>Qd (m=n∧0≤n∧by_*n≤140737488355328∧n≤9223372036854775807) (some (.osl (Qx nid h) 0 s 0 n.toNat,Kb nid h (.row 0 (n.toNat*s) (F7 z))))
  | none=>none
 | none=>none
theorem lj (a b:IntKind) (n m:Int):Bd P nid t (.int a n) (.int b m) h=Tw (Aq P t) P nid n m h:=nrfl (by
 unfold Bd Tw; cases Aq P t <;> first | rfl | (rename_i x; obtain ⟨_,_,_⟩:=x; rfl))
def eP (z:Option (List AV)) (s by_:Nat) (nid:Option Nat) (n m:Int) (h:List AO):Option (AV×List AO) :=
 match z with
 | some z=>Qd (m=n∧0≤n∧by_*n≤140737488355328∧n≤9223372036854775807) (some (.osl (Qx nid h) 0 s 0 n.toNat,Kb nid h (.row 0 (n.toNat*s) (F7 z))))
 | none=>none
theorem eN (e s b:Nat) (n m:Int):Tw (some (e,s,b)) P nid n m h=eP (QF P e) s b nid n m h:=nrfl rfl
theorem eQ (z:List AV) (s b:Nat) (n m:Int):eP (some z) s b nid n m h=Qd (m=n∧0≤n∧b*n≤140737488355328∧n≤9223372036854775807) (some (.osl (Qx nid h) 0 s 0 n.toNat,Kb nid h (.row 0 (n.toNat*s) (F7 z)))):=nrfl rfl
theorem lm (s n m:Nat) (g:Nat→AV) (q:Bool):CH s (.sl n m g q) h=Qd (n*s≤m) (some (n,g)):=nrfl rfl
def pC (s ver es off n:Nat) (o:Option AO):Option (Nat×(Nat→AV)) :=
 match o with
 | some (.row v m g)=>Qd (v=ver∧es=s∧off+n*s≤m) (some (n,fun j=>g (off+j)))
 | some (.con v m g)=>Qd (v=ver∧es=s∧off+n*s≤m) (some (n,fun j=>g (off+j)))
 | _=>none
theorem fg (s id ver es off n:Nat):CH s (.osl id ver es off n) h=pC s ver es off n h[id]?:=nrfl rfl
theorem YD (s ver es off n v m:Nat) (g:Nat→AV):pC s ver es off n (some (.row v m g))=Qd (v=ver∧es=s∧off+n*s≤m) (some (n,fun j=>g (off+j))):=nrfl rfl
def Vd (z:Bool) (e:Option (TypeId×Nat×Nat)) (x:AV) (h:List AO):Option (AV×List AO) :=
 match e with
 | none=>none
 | some (_,s,_) =>
  match x with
  | .osl id ver es off n =>
   match h[id]? with
   | some (.row v k f)=>Qd (z=true∧v=ver∧es=s∧off+n*s≤k) (some (.any,h.set id (.row v k (Mr off (n*s) f))))
   | _=>none
  | _=>none
theorem e8 (x:AV):Bt P t x h=Vd (WO P t) (Aq P t) x h:=nrfl rfl
def Ve (z:Bool) (o:Option AO) (id ver es off n s:Nat) (h:List AO):Option (AV×List AO) :=
 match o with
 | some (.row v k f)=>Qd (z=true∧v=ver∧es=s∧off+n*s≤k) (some (.any,h.set id (.row v k (Mr off (n*s) f))))
 | _=>none
theorem Yh (z:Bool) (e s b id ver es off n:Nat):Vd z (some (e,s,b)) (.osl id ver es off n) h=Ve z h[id]? id ver es off n s h:=nrfl rfl
theorem Yi (z:Bool) (id ver es off n s v k:Nat) (f:Nat→AV):Ve z (some (.row v k f)) id ver es off n s h=Qd (z=true∧v=ver∧es=s∧off+n*s≤k) (some (.any,h.set id (.row v k (Mr off (n*s) f)))):=nrfl rfl
def ef (e:Option (TypeId×Nat×Nat)) (x y:AV) (h:List AO):Option (AV×List AO) :=
 match e with
 | none=>none
 | some (_,s,_) =>
  match CH s y h with
  | none=>none
  | some (m,g) =>
   match x with
   | .osl id ver es off n =>
    match h[id]? with
    | some (.row v k f)=>Qd (v=ver∧es=s∧off+min m n*s≤k∧(∀ j,j<min m n*s→(g j).one=true))
      (some (.int .i64 ((min m n:Nat):Int),h.set id (.row v k (IA off (min m n*s) f g))))
    | _=>none
   | _=>none
theorem lc (x y:AV):Ee P t x y h=ef (Aq P t) x y h:=nrfl rfl
def eo (o:Option (Nat×(Nat→AV))) (s:Nat) (x:AV) (h:List AO):Option (AV×List AO) :=
 match o with
 | none=>none
 | some (m,g) =>
  match x with
  | .osl id ver es off n =>
   match h[id]? with
   | some (.row v k f)=>Qd (v=ver∧es=s∧off+min m n*s≤k∧(∀ j,j<min m n*s→(g j).one=true))
     (some (.int .i64 ((min m n:Nat):Int),h.set id (.row v k (IA off (min m n*s) f g))))
   | _=>none
  | _=>none
theorem eg (e s b:Nat) (x y:AV):ef (some (e,s,b)) x y h=eo (CH s y h) s x h:=nrfl rfl
def ei (o:Option AO) (id ver es off n s m:Nat) (g:Nat→AV) (h:List AO):Option (AV×List AO) :=
 match o with
 | some (.row v k f)=>Qd (v=ver∧es=s∧off+min m n*s≤k∧(∀ j,j<min m n*s→(g j).one=true))
     (some (.int .i64 ((min m n:Nat):Int),h.set id (.row v k (IA off (min m n*s) f g))))
 | _=>none
theorem Tk (m s id ver es off n:Nat) (g:Nat→AV):eo (some (m,g)) s (.osl id ver es off n) h=ei h[id]? id ver es off n s m g h:=nrfl rfl
theorem ek (id ver es off n s m v k:Nat) (f g:Nat→AV):ei (some (.row v k f)) id ver es off n s m g h =
 Qd (v=ver∧es=s∧off+min m n*s≤k∧(∀ j,j<min m n*s→(g j).one=true))
     (some (.int .i64 ((min m n:Nat):Int),h.set id (.row v k (IA off (min m n*s) f g)))):=nrfl rfl
def py (e:Option (TypeId×Nat×Nat)) (x y:AV) (h:List AO):Option (AV×List AO) :=
 match e with
 | none=>none
 | some (_,s,by_) =>
  match CH s y h with
  | none=>none
  | some (m,g) =>
   match x with
   | .osl id ver es off n =>
    match h[id]? with
    | some (.row v k f)=>Qd (v=ver∧es=s∧off=0∧n*s≤k∧(∀ j,j<m*s→(g j).one=true)∧(n+m)*by_≤140737488355328∧n+m≤9223372036854775807)
      (some (.osl id (v+1) s 0 (n+m),h.set id (.row (v+1) ((n+m)*s) (QK (n*s) f (m*s) g))))
    | _=>none
   | .sl n k f true=>if m=0∧0<n then some (.sl n k f true,h) else Qd (n*s≤k∧(n=0∨0<m)∧(∀ j,j<m*s→(g j).one=true)∧(n+m)*by_≤140737488355328∧n+m≤9223372036854775807)
      (some (.osl h.length 0 s 0 (n+m),h ++ [.row 0 ((n+m)*s) (QK (n*s) f (m*s) g)]))
   | _=>none
theorem qO (x y:AV):Ke P t x y h=py (Aq P t) x y h:=nrfl rfl
def dK (o:Option (Nat×(Nat→AV))) (s by_:Nat) (x:AV) (h:List AO):Option (AV×List AO) :=
 match o with
 | none=>none
 | some (m,g) =>
  match x with
  | .osl id ver es off n =>
   match h[id]? with
   | some (.row v k f)=>Qd (v=ver∧es=s∧off=0∧n*s≤k∧(∀ j,j<m*s→(g j).one=true)∧(n+m)*by_≤140737488355328∧n+m≤9223372036854775807)
     (some (.osl id (v+1) s 0 (n+m),h.set id (.row (v+1) ((n+m)*s) (QK (n*s) f (m*s) g))))
   | _=>none
  | .sl n k f true=>if m=0∧0<n then some (.sl n k f true,h) else Qd (n*s≤k∧(n=0∨0<m)∧(∀ j,j<m*s→(g j).one=true)∧(n+m)*by_≤140737488355328∧n+m≤9223372036854775807)
     (some (.osl h.length 0 s 0 (n+m),h ++ [.row 0 ((n+m)*s) (QK (n*s) f (m*s) g)]))
  | _=>none
theorem l7 (e s b:Nat) (x y:AV):py (some (e,s,b)) x y h=dK (CH s y h) s b x h:=nrfl rfl
def pz (o:Option AO) (id ver es off n s by_ m:Nat) (g:Nat→AV) (h:List AO):Option (AV×List AO) :=
 match o with
 | some (.row v k f)=>Qd (v=ver∧es=s∧off=0∧n*s≤k∧(∀ j,j<m*s→(g j).one=true)∧(n+m)*by_≤140737488355328∧n+m≤9223372036854775807)
     (some (.osl id (v+1) s 0 (n+m),h.set id (.row (v+1) ((n+m)*s) (QK (n*s) f (m*s) g))))
 | _=>none
theorem Ya (m s b id ver es off n:Nat) (g:Nat→AV):dK (some (m,g)) s b (.osl id ver es off n) h=pz h[id]? id ver es off n s b m g h:=nrfl rfl
theorem dM (m s b n k:Nat) (f g:Nat→AV):dK (some (m,g)) s b (.sl n k f true) h =
 if m=0∧0<n then some (.sl n k f true,h) else Qd (n*s≤k∧(n=0∨0<m)∧(∀ j,j<m*s→(g j).one=true)∧(n+m)*b≤140737488355328∧n+m≤9223372036854775807)
     (some (.osl h.length 0 s 0 (n+m),h ++ [.row 0 ((n+m)*s) (QK (n*s) f (m*s) g)])):=nrfl rfl
theorem l8 (id ver es off n s b m v k:Nat) (f g:Nat→AV):pz (some (.row v k f)) id ver es off n s b m g h =
 Qd (v=ver∧es=s∧off=0∧n*s≤k∧(∀ j,j<m*s→(g j).one=true)∧(n+m)*b≤140737488355328∧n+m≤9223372036854775807)
     (some (.osl id (v+1) s 0 (n+m),h.set id (.row (v+1) ((n+m)*s) (QK (n*s) f (m*s) g)))):=nrfl rfl
theorem tY (l:List AV) (i:Nat):HF l i []=l:=nrfl rfl
theorem tX (l:List AV) (i:Nat) (a:AV) (r:List AV):HF l i (a :: r)=HF (l.set i a) (i+1) r:=nrfl rfl
theorem uu (z:List AV):F8 z 0=[]:=nrfl rfl
theorem ut (z:List AV) (n:Nat):F8 z (n+1)=z ++ F8 z n:=nrfl rfl
theorem l5 (pl:Nat→Option (Nat×Nat)) (l:List AV):Zm pl l []=some l:=nrfl (by cases l <;> rfl)
def dH (o:Option (Nat×Nat)) (pl:Nat→Option (Nat×Nat)) (cells:List AV) (v:AV) (rest:List (Nat×AV)):Option (List AV) :=
 match o with
 | some (off,size)=>Qd (v.cells.length=size∧off+size≤cells.length∧v.cells.all AV.one=true) (Zm pl (HF cells off (v.cells.map AV.loose)) rest)
 | none=>none
theorem kZ (pl:Nat→Option (Nat×Nat)) (l:List AV) (i:Nat) (v:AV) (r:List (Nat×AV)):Zm pl l ((i,v) :: r)=dH (pl i) pl l v r:=nrfl (by cases l <;> rfl)
theorem dI (pl:Nat→Option (Nat×Nat)) (l:List AV) (v:AV) (r:List (Nat×AV)) (off size:Nat):dH (some (off,size)) pl l v r =
 Qd (v.cells.length=size∧off+size≤l.length∧v.cells.all AV.one=true) (Zm pl (HF l off (v.cells.map AV.loose)) r):=nrfl rfl
def Vc (z:Option (List AV)) (P:Program) (t:TypeId) (parts:List (Nat×AV)):Option AV :=
 match z with
 | some z=>Qd (Au P t=true) ((Zm (QH P t) z parts).map .agg)
 | none=>none
theorem e6 (ps:List (Nat×AV)):Ga P t ps=Vc (QF P t) P t ps:=nrfl rfl
theorem Yf (z:List AV) (ps:List (Nat×AV)):Vc (some z) P t ps=Qd (Au P t=true) ((Zm (QH P t) z ps).map .agg):=nrfl rfl
def P9 (e:Option (TypeId×Nat×Nat)) (P:Program) (n:Nat) (parts:List (Nat×AV)):Option AV :=
 match e with
 | some (e,s,_) =>
  match QF P e with
  | some z=>Qd (n*s≤2 ^ 24) ((Zm (fun i=>some (i*s,s)) (F8 z n) parts).map fun l=>.sl n (n*s) (Xk l) true)
  | none=>none
 | none=>none
theorem Yg (n:Nat) (ps:List (Nat×AV)):ZY P t n ps=P9 (Aq P t) P n ps:=nrfl rfl
def Pa (z:Option (List AV)) (s n:Nat) (parts:List (Nat×AV)):Option AV :=
 match z with
 | some z=>Qd (n*s≤2 ^ 24) ((Zm (fun i=>some (i*s,s)) (F8 z n) parts).map fun l=>.sl n (n*s) (Xk l) true)
 | none=>none
theorem Th (e s b n:Nat) (ps:List (Nat×AV)):P9 (some (e,s,b)) P n ps=Pa (QF P e) s n ps:=nrfl rfl
theorem Ti (z:List AV) (s n:Nat) (ps:List (Nat×AV)):Pa (some z) s n ps=Qd (n*s≤2 ^ 24) ((Zm (fun i=>some (i*s,s)) (F8 z n) ps).map fun l=>.sl n (n*s) (Xk l) true):=nrfl rfl
end
theorem aT (m:Nat) (f:Nat→AV) (o:Nat):(AV.ptr m f o).isPtr=true:=nrfl rfl
theorem aU (a b c:Nat):(AV.ref a b c).isPtr=true:=nrfl rfl
theorem rV (l:List Int):X4 l=.sl l.length l.length (Qb I 0 l) false:=nrfl rfl
theorem lE (l:List Bool):Zo l=.sl l.length l.length (Qb AV.bool false l) false:=nrfl rfl
theorem oJ (l:List Nat) (id i:Nat):Hr l id i=(l.contains id && !l.contains (1000*id+1000+i)):=nrfl rfl
section
variable (m:Nat)
theorem uL:Ko m .any=True:=eq_true fun _ v _=>.any v
theorem xz (n:Int):Ko m (I n)=True:=eq_true (X7 (X9 n))
theorem qZ (b:Bool):Ko m (.bool b)=True:=eq_true (X7 (X2 b))
theorem uN {id v o:Nat} (h:id<m):Ko m (.ref id v o)=True:=eq_true (lC h)
theorem uM {id v e o n:Nat} (h:id<m):Ko m (.osl id v e o n)=True:=eq_true (HR h)
theorem r5 (l:List Int):Ko m (X4 l)=True:=eq_true (X7 (X6 l))
theorem uO (n:Nat) (f:Nat→AV) (t:Bool):Ko m (.sl n 0 f t)=True:=eq_true (X7 (QX fun _ h=>absurd h (Nat.not_lt_zero _)))
theorem uK {l:List AV} (h:∀ a∈l,Ko m a):Ko m (.agg l)=True:=eq_true (lz h)
theorem wR (v n:Nat) (l:List Int):XT m (.row v n (Qb I 0 l))=True:=eq_true fun _ _=>X7 (X9 _)
theorem Vs {l:List AV} (h:∀ a∈l,Ko m a) (j:Nat):Ko m (Xk l j):=by
 show Ko m (l.getD j .any)
 rw [List.getD_eq_getElem?_getD]
 by_cases hj:j<l.length
 ·rw [List.getElem?_eq_getElem hj]; exact h _ (List.getElem_mem _)
 ·rw [List.getElem?_eq_none (by omega)]; exact X7 Bn
theorem wT {v n:Nat} {l:List AV} (h:∀ a∈l,Ko m a):XT m (.row v n (Xk l))=True:=eq_true fun j _=>Vs m h j
theorem qY {v n:Nat} {l:List AV} (h:∀ a∈l,Ko m a):XT m (.con v n (Xk l))=True:=eq_true fun j _=>Vs m h j
end
def XA:=And.intro @uL <| And.intro @xz <| And.intro @qZ <| And.intro @uN <| And.intro @uM <| And.intro @r5 <| And.intro @uO <| And.intro @uK <| And.intro @wR <| And.intro @wT <| @qY
def ws:=And.intro @Nat.zero_add <| And.intro @Nat.add_zero <| And.intro @Nat.zero_lt_succ <| And.intro @Nat.min_self <| And.intro @Nat.zero_min <| And.intro @Nat.min_zero <| And.intro @Nat.sub_zero <| And.intro @Nat.zero_mul <| And.intro @Int.le_refl <| And.intro @Nat.le_refl <| And.intro @Nat.lt_irrefl <| And.intro @Nat.mul_one <| And.intro @Bool.false_eq_true <| And.intro @Bool.true_eq_false <| And.intro @decide_true <| And.intro @decide_false <| And.intro @decide_eq_true_eq <| And.intro @decide_eq_false_iff_not <| And.intro @Bool.not_true <| And.intro @Bool.not_false <| And.intro @Bool.not_eq_true' <| And.intro @Bool.not_eq_false' <| And.intro @Bool.and_true <| And.intro @Bool.true_and <| And.intro @Bool.false_and <| And.intro @true_and <| And.intro @and_true <| And.intro @false_and <| And.intro @and_false <| And.intro @not_true_eq_false <| And.intro @not_false_eq_true <| And.intro @or_true <| And.intro @true_or <| And.intro @or_false <| And.intro @false_or <| And.intro @Bool.or_false <| And.intro @Bool.or_true <| And.intro @Bool.false_or <| And.intro @Bool.true_or <| And.intro @Int.natCast_nonneg <| And.intro @Int.ofNat_lt <| And.intro @Int.ofNat_le <| And.intro @Int.ofNat_inj <| @Int.ofNat_zero
def wt:=And.intro @e8 <| And.intro @Yh <| And.intro @Yi <| And.intro @kN <| And.intro @kO <| And.intro @qJ <| And.intro @qK <| And.intro @qD <| And.intro @qE <| And.intro @qo <| And.intro @qp <| And.intro @qz <| And.intro @qB <| And.intro @qq <| And.intro @qu <| And.intro @qr <| And.intro @qx <| And.intro @qy <| And.intro @qG <| And.intro @qI <| And.intro @qv <| And.intro @qw <| And.intro @kR <| And.intro @kQ <| And.intro @qF <| And.intro @uG <| And.intro @uF <| And.intro @uE <| And.intro @sb <| And.intro @oq <| And.intro @mL <| And.intro @mM <| And.intro @fR <| And.intro @fS <| And.intro @fL <| And.intro @TP <| And.intro @fM <| And.intro @Oe <| And.intro @mn <| And.intro @rg <| And.intro @fI <| And.intro @M7 <| And.intro @M8 <| And.intro @ll <| And.intro @TE <| And.intro @PH <| And.intro @ag <| And.intro @aa <| And.intro @Iy <| And.intro @fJ <| And.intro @YZ <| And.intro @fK <| And.intro @ah <| And.intro @mo <| And.intro @TO <| And.intro @lc <| And.intro @eg <| And.intro @Tk <| And.intro @ek <| And.intro @ae <| And.intro @ac <| And.intro @xo <| And.intro @tP <| And.intro @PF <| And.intro @PE <| And.intro @uf <| And.intro @ue <| And.intro @O0 <| And.intro @Ts <| And.intro @Ey <| And.intro @Ez <| And.intro @Tu <| And.intro @TG <| And.intro @jK <| And.intro @jJ <| And.intro @Px <| And.intro @eI <| And.intro @Tn <| And.intro @Pk <| And.intro @NW <| And.intro @Pj <| And.intro @Yk <| And.intro @NT <| And.intro @NU <| And.intro @ie <| And.intro @ig <| And.intro @ff <| And.intro @TF <| And.intro @Pv <| And.intro @Pw <| And.intro @Yz <| And.intro @Yy <| And.intro @YB <| And.intro @lg <| And.intro @eJ <| And.intro @l9 <| And.intro @ee <| And.intro @se <| And.intro @sf <| And.intro @oa <| And.intro @oc <| And.intro @dJ <| And.intro @Y0 <| And.intro @qP <| And.intro @lj <| And.intro @eN <| And.intro @eQ <| And.intro @lm <| And.intro @fg <| And.intro @YD <| And.intro @qO <| And.intro @l7 <| And.intro @Ya <| And.intro @dM <| And.intro @l8 <| And.intro @tY <| And.intro @tX <| And.intro @uu <| And.intro @ut <| And.intro @l5 <| And.intro @kZ <| And.intro @dI <| And.intro @e6 <| And.intro @Yf <| And.intro @Yg <| And.intro @Th <| And.intro @Ti <| And.intro @aT <| And.intro @aU <| And.intro @rV <| And.intro @lE <| @oJ
end
end Go.Ab
namespace Go.Ab
open Go Go.RowKit
noncomputable section
theorem Marks.pokeLoop {c0 c:Ctx} {l:Nat} {r:Loop} (hk:Kept c l (.loop r)) (o:Obj):∀ {ds:List Deferred},Marks c0 c ds→Marks c0 ⟨c.w.putObj l o,c.S,c.γ,c.H⟩ ds
 | [],_=>trivial
 | _ :: _,⟨⟨D,e,h1,h2,h3⟩,h⟩=>⟨⟨D,e,h1,h2.poke (fun e=>by
   have:=h2.1
   rw [e,hk.1] at this
   cases this) (J0 c.w l o),h3⟩,h.pokeLoop hk o⟩
theorem R3 {m:Nat} {c0 c:Ctx} {l:Nat} {o:Obj} (hx:ExtB m c0 c) (hl:Z2 c0 l):ExtB m c0 ⟨c.w.putObj l o,c.S,c.γ,c.H⟩ :=
 ⟨fun id o hid ho=>hx.hle id o hid ho,hx.smono,hx.snew,hx.onew,fun b hb hn=>(J0 c.w l o b (fun e=>hn (e▸hl))).trans (hx.same b hb hn),by rw [World.putObj_size]; exact hx.size,hx.os,hx.tape,hx.output⟩
theorem IY {c:Ctx} {l:Nat} {o o':Obj} (h:Kept c l o):Kept ⟨c.w.putObj l o',c.S,c.γ,c.H⟩ l o':=⟨World.putObj_heap_same h.lt,h.2.1,h.2.2⟩
theorem NB {X:Env} {l:Nat} {r:Loop} {k:List Item} {s:AS} (hX:X.rnd=some (l,r)) (ht:X.tok=[]) (hr:r.state=.ready) (h:Run { X with rnd:=some (l,{ r with state:=.busy }) } k s):Run X (.beginRound :: k) s:=by
 intro hm ho hrn c0 c a ds hst hp b cs hf hk hb
 have hkp:=hp.rnd l r hX
 have hb':b.roundOf=some l:=by rw [hb,hX]; rfl
 obtain ⟨v,fr,r',c',h1,h2,h3,h4,h5,h6,h7⟩:=h hm (fun i hi=>ho i (List.mem_cons_of_mem _ hi)) (fun _=>hrn (by rw [hX]; rfl)) c0 ⟨c.w.putObj l (.loop { r with state:=.busy }),c.S,c.γ,c.H⟩ a ds (hst.poke hkp.1)
  ⟨R3 hp.ext hkp.2,fun p hp'=>absurd hp' (by show p∉X.tok; rw [ht]; exact List.not_mem_nil),fun l' r' e=>by cases e; exact ⟨IY hkp.1,hkp.2⟩,hp.marks.pokeLoop hkp.1 _,fun _ _ _ _ e=>by cases e⟩ b cs hf hk hb'
 refine ⟨v,fr,r',c',.head (stepR_beginRound hb' (run_beginRound hkp.1.1 hr)) h1,?_,h3,h4,by rw [DI hX]; rw [DI (X:={ X with rnd:=some (l,{ r with state:=.busy }) }) rfl] at h5; exact h5,?_,h7⟩
 ·unfold kP at h2 ⊢
  rw [hX]
  exact h2
 ·intro l' r'' e
  rw [hX] at e
  cases e
  obtain ⟨st,pe,hq⟩:=h6 l _ rfl
  exact ⟨st,pe,hq⟩
def Wg (s:AS):List Nat→List AV→AS
 | p :: ps,v :: vs=>Wg (s.put p v) ps vs
 | _,_=>s
def PR (P:Program) (fn:Func) (str hcs:List Nat) (m l:Nat) (r:Loop) (H':List AO):Env:=⟨P,fn,888888 :: str,hcs,m,some (l,r),[],none,fun _ H=>H.take m=H'⟩
def VX:Loop:={ state:=.ready,pending:=none,fn:=0,tmps:=#[],params:=#[],assign:=.skip,body:=.skip,defers:=0 }
def U6 (P:Program) (fn:Func) (str hcs:List Nat) (m l:Nat) (r:Loop) (H':List AO):Env:=⟨P,fn,888888 :: str,hcs,m,some (l,r),[],some (0,VX,VX),fun _ H=>H.take m=H'⟩
def xj (q:Bool):Option (Nat×Loop×Loop):=match q with | true=>none | false=>some (0,VX,VX)
def vt (P:Program) (fn:Func) (str hcs:List Nat) (m l:Nat) (r:Loop) (H':List AO) (q:Bool):Env:=⟨P,fn,888888 :: str,hcs,m,some (l,r),[],xj q,fun _ H=>H.take m=H'⟩
def JV (r:Loop):Bool→Loop
 | true=>r
 | false=>{ r with state:=.done,pending:=some .ret }
theorem Aa {w:World} {l:Nat} {o:Obj} (h:w.heap[l]?=some o):w.putObj l o=w:=by
 unfold World.putObj
 have:w.heap.setIfInBounds l o=w.heap:=by
  apply Array.ext_getElem?
  intro i
  rw [Array.getElem?_setIfInBounds]
  split
  ·rename_i e; subst e
   split
   ·exact h.symm
   ·rename_i hn; rw [Array.getElem?_eq_none (by omega)]
  ·rfl
 rw [this]
theorem AQ (w:World) (l:Nat) (o o':Obj):(w.putObj l o).putObj l o'=w.putObj l o':=by
 unfold World.putObj; simp
def YC (P:Program) (t:Tok) (q:Bool) (args:List AV) (H H':List AO):Prop :=
 ∀ (c:Ctx) (vs:Array Value),c.H=H→HRel c→TokOk c t→RepL c vs args→∃ f tmps assign body,(Instr.yield t.l vs).run P c.w=.ok (.round t.l f tmps assign body) c.w ∧
  RoundIn Fence.wide 0 P t.l f tmps assign body c.w fun e w'=>∃ S' γ',e=.returned (.bool q)∧w'.heap[t.l]?=some (.loop (JV t.r q))∧HRel ⟨w'.putObj t.l (.loop t.r),S',γ',H'⟩∧Ext c ⟨w'.putObj t.l (.loop t.r),S',γ',H'⟩
theorem YC.call {P:Program} {t:Tok} {args:List AV} {H H':List AO} (h:YC P t true args H H'):YCall P t args H (.bool true) H':=by
 intro c vs h1 h2 h3 h4
 obtain ⟨f,tmps,assign,body,k1,k2⟩:=h c vs h1 h2 h3 h4
 refine ⟨f,tmps,assign,body,k1,k2.mono ?_⟩
 rintro e w' ⟨S',γ',rfl,q1,q2,q3⟩
 rw [show JV t.r true=t.r from rfl] at q1
 rw [Aa q1] at q2 q3
 exact ⟨.bool true,S',γ',rfl,.bool true,q2,q3⟩
structure LoopIs (P:Program) (fn:Func) (ps:Array Nat) (assign body:Code) (s:AS) (t:Tok):Prop where
 st:t.r.state=.ready
 pe:t.r.pending=none
 fc:P.funcs[t.r.fn]?=some fn
 ps:t.r.params=ps
 as:t.r.assign=assign
 bd:t.r.body=body
 at':∃ a:Act,t.r.tmps=a.tmps∧St fn.ntmps t.ce a s
 ch:t.ce.H=s.h
theorem Wi {N:Nat} {c:Ctx}:∀ (ps:List Nat) (vs:List Value) (es:List AV) (a:Act) (s:AS),St N c a s→ps.length=es.length→vs.length=es.length→(∀ j,j<es.length→Rep c (vs.getD j undef) (es.getD j .any))→(∀ p∈ps,p<N) →
  St N c { tmps:=(ps.zip vs).foldl (fun t q=>t.setIfInBounds q.1 q.2) a.tmps,defers:=a.defers } (Wg s ps es)
 | [],vs,es,a,s,hst,_,_,_,_=>by simp only [List.zip_nil_left,List.foldl_nil]; exact hst
 | p :: ps,[],es,a,s,hst,h1,h2,_,_=>by simp at h1 h2; omega
 | p :: ps,v :: vs,[],a,s,hst,h1,h2,_,_=>by simp at h1
 | p :: ps,v :: vs,e :: es,a,s,hst,h1,h2,h3,h4=>by
  have hp:=hst.putO (Ext.refl c) hst.hrel (d:=some p) (x:=v) (v:=e) (by simpa using h3 0 (by simp)) (fun i hi=>by cases hi; exact h4 p (by simp))
  have hs:({ s with h:=c.H }:AS)=s:=by rw [hst.heap]
  rw [hs] at hp
  exact Wi ps vs es (a.put (some p) v) (s.put p e) hp (by simpa using h1) (by simpa using h2) (fun j hj=>by simpa using h3 (j+1) (by simpa using hj)) (fun q hq=>h4 q (by simp [hq]))
theorem GS (ps:Array Nat) (vs:Array Value) (t:Array Value):(ps.zip vs).foldl (fun t (q:Nat×Value)=>t.setIfInBounds q.1 q.2) t=(ps.toList.zip vs.toList).foldl (fun t q=>t.setIfInBounds q.1 q.2) t:=by
 rw [← Array.foldl_toList,Array.toList_zip]
theorem LK {P:Program} (q:Bool) {fn:Func} {ps:Array Nat} {assign body:Code} {s:AS} {t:Tok} {str hcs:List Nat} {elt:List AV} {H H':List AO} (hl:LoopIs P fn ps assign body s t) (hm:P.follows .mixedOrders=true)
  (hok:Qp fn.ntmps (888888 :: str) hcs assign=true) (hok2:Qp fn.ntmps (888888 :: str) hcs body=true) (hps:elt.length=ps.size) (hpN:∀ p∈ps.toList,p<fn.ntmps) (hO:∀ o∈H',XT H.length o)
  (hrun:∀ l r,r.state=.ready→Run (vt P fn str hcs H.length l r H' q) [.code assign,.beginRound,.code body] (Wg { s with h:=H } ps.toList elt)):YC P t q elt H H':=by
 rintro c vs rfl hr ⟨hkc,hext⟩ hv
 obtain ⟨a,hat,hst0⟩:=hl.at'
 have hsz:vs.size=t.r.params.size:=by rw [hv.1,hps,hl.ps]
 refine ⟨t.r.fn,_,t.r.assign,t.r.body,run_yield hkc.1 hsz,trivial,fun cf cs _=>?_⟩
 have hst1:St fn.ntmps c { tmps:=a.tmps,defers:=[] } { s with h:=c.H } :=
  ⟨hst0.size,rfl,fun i=>hext.rep hst0.hrel (hst0.slots i),rfl,hr⟩
 have hst2:=Wi ps.toList vs.toList elt _ _ hst1 (by simp [hps]) (by simp [hv.1]) (fun j hj=>by
  have:=hv.2 j hj
  simpa [Array.getD_eq_getD_getElem?,List.getD_eq_getElem?_getD] using this) hpN
 rw [← GS] at hst2
 obtain ⟨c0,hc0⟩:∃ c0:Ctx,c0=⟨c.w,c.S,fun id=>if id=c.H.length then some (t.l,0) else c.γ id,c.H ++ [.map .i64 fun _=>none]⟩:=⟨_,rfl⟩
 have hown:Z2 c0 t.l:=⟨c.H.length,.map .i64 fun _=>none,0,by rw [hc0]; simp,rfl,by rw [hc0]; simp⟩
 have hownB:∀ b,Z2 c0 b→Z2 c b∨b=t.l:=by
  rintro b ⟨id,o,sz,ho,h1,h2⟩
  rw [hc0] at ho h2
  simp only at ho h2
  by_cases hid:id=c.H.length
  ·rw [if_pos hid] at h2; cases h2; exact .inr rfl
  ·rw [if_neg hid] at h2
   have hlt:id<c.H.length:=by
    have:=(List.getElem?_eq_some_iff.1 ho).1
    simp at this; omega
   rw [List.getElem?_append_left hlt] at ho
   exact .inl ⟨id,o,sz,ho,h1,h2⟩
 have hget0:∀ (id:Nat),id<c.H.length→c0.H[id]?=c.H[id]?∧c0.γ id=c.γ id:=fun id hid=>by
  rw [hc0]
  exact ⟨List.getElem?_append_left hid,by show (if id=c.H.length then _ else _)=_; rw [if_neg (by omega)]⟩
 have hx0:ExtB c.H.length c0 c:=by
  refine ⟨?_,fun b hb=>by rw [hc0] at hb; exact hb,fun b hb=>.inl (by rw [hc0]; exact hb),fun b hb=>.inr ?_,fun b _ _=>by rw [hc0],by rw [hc0]; exact Nat.le_refl _,by rw [hc0],by rw [hc0],by rw [hc0]⟩
  ·intro id o hid ho
   obtain ⟨e1,e2⟩:=hget0 id hid
   rw [e1] at ho
   have:=HLe.refl c id o ho
   cases o <;> (first | trivial | exact this | (dsimp only at this ⊢; rw [e2]; exact this))
  ·obtain ⟨id,o,sz,ho,h1,h2⟩:=hb
   have hlt:=(List.getElem?_eq_some_iff.1 ho).1
   obtain ⟨e1,e2⟩:=hget0 id hlt
   exact ⟨id,o,sz,e1.trans ho,h1,e2.trans h2⟩
 let b:Frame:={ (default:Frame) with fn:=t.r.fn,kind:=.normal,roundOf:=some t.l }
 have hb0:∀ tm:Array Value,Frame.round t.l t.r.fn tm t.r.assign t.r.body .normal=b.atR { ({ tmps:=tm,defers:=[] }:Act) with defers:=[] } [.code assign,.beginRound,.code body]:=fun tm=>by
  simp [Frame.round,Frame.atR,b,hl.as,hl.bd]
 obtain ⟨v,fr,r',c',h1,h2,h3,h4,h5,h6,h7⟩:=hrun t.l t.r hl.st hm (by
   intro i hi
   simp only [List.mem_cons,List.not_mem_nil,or_false] at hi
   rcases hi with rfl | rfl | rfl
   ·exact hok
   ·rfl
   ·exact hok2) (fun _=>by simp [vt]) c0 c _ [] hst2 ⟨hx0,fun p hp=>absurd hp List.not_mem_nil,fun l r e=>by cases e; exact ⟨hkc,hown⟩,trivial,fun _ _ _ _ e=>by cases e⟩ b (cf :: cs) hl.fc rfl rfl
 rw [DI (q:=(t.l,t.r)) rfl] at h5
 obtain ⟨st,pe,hke⟩:=h6 t.l t.r rfl
 have erec:({ t.r with state:=.ready,pending:=none }:Loop)=t.r:=by
  conv=>lhs; rw [← hl.st,← hl.pe]
 have hback:step P (lone fr (cf :: cs) c'.w)=.next (lone (cf.finish (.bool q)) cs (c'.w.putObj t.l (.loop (JV t.r q)))):=by
  cases q with
  | true =>
   obtain ⟨a',rfl⟩:∃ a':Act,fr=b.atR { a' with defers:=[] } []:=h2
   have hend:=run_endRound (P:=P) none hke.1
   simp only [Option.isNone_none,if_true] at hend
   rw [show ({ ({ t.r with state:=st,pending:=pe }:Loop) with state:=.ready,pending:=none }:Loop)={ t.r with state:=.ready,pending:=none } from rfl,erec] at hend
   exact stepR_round_end (P:=P) (b:=b) (a:={ a' with defers:=[] }) (cs:=cs) (c:=cf) rfl rfl hend
  | false =>
   obtain ⟨a',k',rfl⟩:∃ (a':Act) (k':List Item),fr=b.atR { a' with defers:=[] } (.code .ret :: k'):=h2
   have hend:=run_endRound (P:=P) (some .ret) hke.1
   exact stepR_round_ret (P:=P) (b:=b) (a:={ a' with defers:=[] }) (k:=k') (cs:=cs) (c:=cf) rfl rfl hend
 obtain ⟨w4,hw4⟩:∃ w4,w4=c'.w.putObj t.l (.loop t.r):=⟨_,rfl⟩
 have hsame4:∀ b,b≠t.l→w4.heap[b]?=c'.w.heap[b]?:=fun b hb=>by rw [hw4]; exact J0 _ _ _ b hb
 have hto:c'.H.take c.H.length=H':=h7
 have hget':∀ (id:Nat),id<c.H.length→H'[id]?=c'.H[id]?:=fun id hid=>by rw [← hto,List.getElem?_take,if_pos hid]
 have hsub:∀ (id:Nat) (o:AO),H'[id]?=some o→c'.H[id]?=some o∧id<c.H.length:=fun id o ho=>by
  rw [← hto,List.getElem?_take] at ho
  split at ho
  ·exact ⟨ho,by assumption⟩
  ·cases ho
 have hrel4:HRel ⟨w4,c'.S,c'.γ,H'⟩:=by
  have h8:=DS h4 c.H.length (by rw [hto]; exact hO)
  rw [hto] at h8
  exact DR (c:=⟨c'.w,c'.S,c'.γ,H'⟩) (l:=t.l) h8 hke.2.1 (fun ⟨id,o,sz,ho,q1,q2⟩=>hke.2.2 ⟨id,o,sz,(hsub id o ho).1,q1,q2⟩) (by rw [hw4]; simp) (fun b hb _=>hsame4 b hb)
 have hw5:(c'.w.putObj t.l (.loop (JV t.r q))).putObj t.l (.loop t.r)=w4:=by rw [hw4,AQ]
 refine ⟨.returned (.bool q),c'.w.putObj t.l (.loop (JV t.r q)),⟨c'.S,c'.γ,rfl,World.putObj_heap_same hke.lt,by rw [hw5]; exact hrel4,?_⟩,?_⟩
 rw [hw5]
 ·refine ⟨?_,fun b hb=>h5.smono b (by rw [hc0]; exact hb),fun b hb=>?_,fun b hb=>?_,fun b hb hn=>?_,?_,?_,?_,?_⟩
  ·intro id o ho
   have hid:=(List.getElem?_eq_some_iff.1 ho).1
   obtain ⟨e1,e2⟩:=hget0 id hid
   have hh:=h5.hle id o hid (e1.trans ho)
   have e3:=hget' id hid
   have e4:inf H' id=inf c'.H id:=by unfold inf; rw [e3]
   cases o <;> simp only at hh ⊢ <;> (try rw [e2] at hh) <;> (try rw [e3]) <;> (try rw [e4]) <;> exact hh
  ·rcases h5.snew b hb with q | q | q
   ·exact .inl (by rw [hc0] at q; exact q)
   ·exact .inr (.inl (by rw [hc0] at q; exact q))
   ·rcases hownB b q with q | rfl
    ·exact .inr (.inr q)
    ·exact absurd hb hke.2.1
  ·have hb':Z2 c' b:=by obtain ⟨id,o,sz,ho,q1,q2⟩:=hb; exact ⟨id,o,sz,(hsub id o ho).1,q1,q2⟩
   rcases h5.onew b hb' with q | q
   ·exact .inl (by rw [hc0] at q; exact q)
   ·rcases hownB b q with q | rfl
    ·exact .inr q
    ·exact absurd hb' hke.2.2
  ·by_cases he:b=t.l
   ·subst he
    show w4.heap[t.l]?=_
    rw [hkc.1,hw4]
    exact World.putObj_heap_same hke.lt
   ·show w4.heap[b]?=_
    rw [hsame4 b he,h5.same b (by rw [hc0]; exact hb) (fun q=>(hownB b q).elim hn he),hc0]
  ·have:=h5.size
   rw [hc0] at this
   show _≤w4.heap.size
   rw [hw4,World.putObj_size]; exact this
  ·have:=h5.os; rw [hc0] at this; rw [hw4]; exact this
  ·have:=h5.tape; rw [hc0] at this; rw [hw4]; exact this
  ·have:=h5.output; rw [hc0] at this; rw [hw4]; exact this
 ·show StepsIn _ _ _ _
  refine stepsIn_wide.2 ?_
  have e5:=hb0 ((t.r.params.zip vs).foldl (fun tmps (q:Nat×Value)=>tmps.setIfInBounds q.1 q.2) t.r.tmps)
  rw [e5]
  rw [hl.ps,hat]
  exact Steps.trans h1 (.one hback)
theorem DJ {P:Program} {fn:Func} {ps:Array Nat} {assign body:Code} {s:AS} {t:Tok} {str hcs:List Nat} {elt:List AV} {H H':List AO} (hl:LoopIs P fn ps assign body s t) (hm:P.follows .mixedOrders=true)
  (hok:Qp fn.ntmps (888888 :: str) hcs assign=true) (hok2:Qp fn.ntmps (888888 :: str) hcs body=true) (hps:elt.length=ps.size) (hpN:∀ p∈ps.toList,p<fn.ntmps) (hO:∀ o∈H',XT H.length o)
  (hrun:∀ l r,r.state=.ready→Run (PR P fn str hcs H.length l r H') [.code assign,.beginRound,.code body] (Wg { s with h:=H } ps.toList elt)):YCall P t elt H (.bool true) H' :=
 (LK true hl hm hok hok2 hps hpN hO hrun).call
theorem TokOk.cut {c:Ctx} {t:Tok} {H1 rest:List AO} (h:TokOk c t) (hH:c.H=H1 ++ rest) (hm:t.ce.H.length≤H1.length):TokOk ⟨c.w,c.S,c.γ,H1⟩ t:=by
 have own1:∀ b,Z2 ⟨c.w,c.S,c.γ,H1⟩ b→Z2 c b:=fun b ⟨id,o,sz,ho,hown,hg⟩=>⟨id,o,sz,by
  rw [hH,List.getElem?_append_left (List.getElem?_eq_some_iff.1 ho).1]; exact ho,hown,hg⟩
 refine ⟨⟨h.1.1,h.1.2.1,fun q=>h.1.2.2 (own1 _ q)⟩,⟨fun id o ho=>?_,h.2.smono,h.2.snew,fun b q=>h.2.onew b (own1 b q),h.2.same,h.2.size,h.2.os,h.2.tape,h.2.output⟩⟩
 have hlt:=(List.getElem?_eq_some_iff.1 ho).1
 have e3:c.H[id]?=H1[id]?:=by rw [hH,List.getElem?_append_left (by omega)]
 have e4:inf c.H id=inf H1 id:=by unfold inf; rw [e3]
 have hh:=h.2.hle id o ho
 cases o <;> simp only at hh ⊢ <;> (try rw [e3] at hh) <;> (try rw [e4] at hh) <;> exact hh
theorem YCall.frame {P:Program} {t:Tok} {args:List AV} {H1 H1':List AO} {v:AV} (h:YCall P t args H1 v H1') (hlen:H1'.length=H1.length) (hce:t.ce.H.length≤H1.length) (hb:∀ a∈args,Ko H1.length a) (hO:∀ o∈H1,XT H1.length o) (rest:List AO) :
  YCall P t args (H1 ++ rest) v (H1' ++ rest):=by
 intro c vs hH hr ht hv
 have htake:c.H.take H1.length=H1:=by rw [hH]; simp
 have hr1:HRel ⟨c.w,c.S,c.γ,H1⟩:=by
  have:=DS hr H1.length (by rw [htake]; exact hO)
  rwa [htake] at this
 have hv1:RepL ⟨c.w,c.S,c.γ,H1⟩ vs args:=⟨hv.1,fun j hj=>by
  have hmem:args.getD j .any∈args:=by rw [List.getD_eq_getElem?_getD,List.getElem?_eq_getElem hj]; exact List.getElem_mem _
  have:=hb _ hmem c _ (hv.2 j hj)
  rwa [htake] at this⟩
 obtain ⟨f,tmps,assign,body,h1,h2⟩:=h ⟨c.w,c.S,c.γ,H1⟩ vs rfl hr1 (ht.cut hH hce) hv1
 refine ⟨f,tmps,assign,body,h1,h2.mono ?_⟩
 rintro e w' ⟨x,S',γ',rfl,hx,hr',hext⟩
 obtain ⟨γ2,k1,k2,k3⟩:=EL hH hr hlen hx hr' hext
 exact ⟨x,S',γ2,rfl,k1,k2,k3⟩
theorem C7 {X:Env} {M:Md} {o:Oper} {t:Tok} {l:Nat} {args as':List AV} {K:AS→Prop} {s:AS} {r:AV} {H1 H1' rest:List AO} (hb:M.hcall=true) (hl:t.l=l) (hmem:t∈X.tok) (h:YCall X.P t as' H1 r H1') (hs:s.h=H1 ++ rest) (hlen:H1'.length=H1.length) (hce:t.ce.H.length≤H1.length)
  (hbel:∀ a∈as',Ko H1.length a) (hO:∀ o∈H1,XT H1.length o) (hborn:∀ o∈H1,o≠.unborn) (hborn':∀ o∈H1',o≠.unborn) (hcon:Ed H1 H1') (ha:WeakL args as')
  (hK:K (({ s with h:=H1' ++ rest }:AS).putO o.dst r)):Ec X M o (.yld l) args K s:=by
 subst hl
 have hdrop:s.h.drop H1.length=rest:=by rw [hs]; simp
 have hat:∀ id:Nat,s.h[id]?=some .unborn→¬ id<H1.length:=fun id hid hlt=>by
  rw [hs,List.getElem?_append_left hlt] at hid
  exact hborn _ (List.mem_of_getElem? hid) rfl
 have hfirst:∀ h2,WX s.h h2→h2=H1 ++ h2.drop H1.length:=by
  intro h2 ho
  have:h2.take H1.length=H1:=by
   apply List.ext_getElem?
   intro i
   rw [List.getElem?_take]
   by_cases hi:i<H1.length
   ·rw [if_pos hi,ho i (by rw [hs,List.getElem?_append_left hi]; intro e; exact hborn _ (List.mem_of_getElem? e) rfl),hs,List.getElem?_append_left hi]
   ·rw [if_neg hi,List.getElem?_eq_none (by omega)]
  conv=>lhs; rw [← List.take_append_drop H1.length h2,this]
 refine ⟨r,H1' ++ rest,⟨.inr t.l,[],rfl,.inr (.inr ⟨hb,as',by rw [List.append_nil]; exact ha,fun h2=>H1' ++ h2.drop H1.length,fun h2 ho=>?_,by show H1' ++ s.h.drop H1.length=_; rw [hdrop],?_,?_,?_⟩)⟩,hK⟩
 ·have:=h.frame hlen hce hbel hO (h2.drop H1.length)
  rw [← hfirst h2 ho] at this
  exact ⟨t,hmem,rfl,this⟩
 ·intro id v n f
  rw [hs]
  by_cases hi:id<H1.length
  ·rw [List.getElem?_append_left hi,List.getElem?_append_left (by omega)]; exact hcon id v n f
  ·rw [List.getElem?_append_right (by omega),List.getElem?_append_right (by omega),hlen]
 ·intro h2 id ob ho hid
  have hge:=hat id hid
  show H1' ++ (h2.set id ob).drop H1.length=(H1' ++ h2.drop H1.length).set id ob
  rw [List.set_append_right _ _ (by omega),hlen,List.drop_set,if_neg (by omega)]
 ·intro id hid
  have hge:=hat id hid
  rw [hs] at hid
  rw [List.getElem?_append_right (by omega)] at hid ⊢
  rw [hlen]; exact hid
def ICallQ (P:Program) (t:Tok) (q:Bool) (f:FuncId) (args:List AV) (H H':List AO):Prop :=
 ZH P f∧∀ (c:Ctx) (vs:Array Value),c.H=H→HRel c→TokOk c t→RepL c vs args→Calls P f vs c.w fun e w'=>∃ v S' γ',e=.returned v∧w'.heap[t.l]?=some (.loop (JV t.r q))∧HRel ⟨w'.putObj t.l (.loop t.r),S',γ',H'⟩∧Ext c ⟨w'.putObj t.l (.loop t.r),S',γ',H'⟩
def ICall (P:Program) (t:Tok) (f:FuncId) (args:List AV) (H H':List AO):Prop:=ICallQ P t true f args H H'
def U5 (P:Program) (fn:Func) (str hcs:List Nat) (t:Tok) (m:Nat) (H':List AO):Env:=⟨P,fn,str,hcs,m,none,[t],none,fun _ H=>H.take m=H'⟩
def gu (P:Program) (fn:Func) (str hcs:List Nat) (t:Tok) (m:Nat) (H':List AO):Env:=⟨P,fn,str,hcs,m,none,[t],some (t.l,t.r,JV t.r false),fun _ H=>H.take m=H'⟩
def vp (P:Program) (fn:Func) (str hcs:List Nat) (m:Nat) (H':List AO):Env:=⟨P,fn,str,hcs,m,none,[],none,fun _ H=>H.take m=H'⟩
theorem VE {m:Nat} {w':World} {S':Nat→Prop} {γ':Nat→Option (Nat×Nat)} {H'' H':List AO} {c:Ctx} (hm:m=c.H.length) (hO:∀ o∈H',XT m o) (h2:HRel ⟨w',S',γ',H''⟩) (h3:ExtB m c ⟨w',S',γ',H''⟩) (h4:H''.take m=H') :
  ∃ S2 γ2,HRel ⟨w',S2,γ2,H'⟩∧Ext c ⟨w',S2,γ2,H'⟩:=by
 subst hm
 have hst:St 0 ⟨w',S',γ',H''⟩ { tmps:=#[],defers:=[] } ⟨0,[],[],[],H''⟩:=⟨rfl,rfl,fun i=>.any _,rfl,h2⟩
 obtain ⟨c',hw,hx,hst'⟩:=XD (b:=c.H.length) (m:=c.H.length) (s:=⟨0,[],[],[],H''⟩) (s':=⟨0,[],[],[],H''.take c.H.length⟩) (Nat.le_refl _) rfl trivial trivial rfl (by simp) (by simp) (by rw [← h4] at hO; exact hO) _ _ _ hst
 have hH:=hst'.heap
 have hrel:=hst'.hrel
 obtain ⟨w2,S2,γ2,H2⟩:=c'
 cases hw
 cases hH
 rw [← h4]
 exact ⟨S2,γ2,hrel,(h3.trans hx).toExt (Nat.le_refl _)⟩
theorem ICall.intro {P:Program} {f:FuncId} {fn:Func} {body:Code} (he:ZH P f) (hf:P.funcs[f]?=some fn) (hb:fn.body=some body) (hm:P.follows .mixedOrders=true) {args:List AV} {t:Tok} {H H':List AO}
  (n0:Nat) (hid str hcs:List Nat) (hok:Qp fn.ntmps str hcs body=true) (hlen:args.length≤fn.ntmps) (hce:t.ce.H.length≤H.length) (hO:∀ o∈H',XT H.length o)
  (h:Run (U5 P fn str hcs t H.length H') [.code body] (AS.start n0 hid args H)):ICall P t f args H H':=by
 refine ⟨he,?_⟩
 rintro c vs rfl hrc htk hv
 refine Ax (X:=U5 P fn str hcs t c.H.length H') hf hb hm hok rfl hrc hv hlen h (fun p hp=>?_) ?_
 ·obtain rfl:p=t:=by simpa [U5] using hp
  exact ⟨htk,hce⟩
 rintro v r' ⟨w',S',γ',H''⟩ h1 h2 h3 h4
 obtain ⟨S2,γ2,k1,k2⟩:=VE rfl hO h2 h3 h4
 have hq:=(htk.1.ext (k2.toB 0)).1
 refine ⟨v,S2,γ2,rfl,hq,?_,?_⟩ <;> rw [Aa hq]
 ·exact k1
 ·exact k2
theorem ICallQ.intro {P:Program} {f:FuncId} {fn:Func} {body:Code} (he:ZH P f) (hf:P.funcs[f]?=some fn) (hb:fn.body=some body) (hm:P.follows .mixedOrders=true) {args:List AV} {t:Tok} {H H':List AO}
  (n0:Nat) (hid str hcs:List Nat) (hok:Qp fn.ntmps str hcs body=true) (hlen:args.length≤fn.ntmps) (hce:t.ce.H.length≤H.length) (hO:∀ o∈H',XT H.length o)
  (h:Run (gu P fn str hcs t H.length H') [.code body] (AS.start n0 hid args H)):ICallQ P t false f args H H':=by
 refine ⟨he,?_⟩
 rintro c vs rfl hrc htk hv
 refine Eg (X:=gu P fn str hcs t c.H.length H') hf hb hm hok rfl hrc hv hlen h (fun p hp=>?_) (fun l r r1 e=>by cases e; exact htk.1) ?_
 ·obtain rfl:p=t:=by simpa [gu] using hp
  exact ⟨htk,hce⟩
 rintro v r' ⟨w',S',γ',H''⟩ h1 h2 ⟨h3,h3'⟩ h4
 obtain ⟨S2,γ2,k1,k2⟩:=VE rfl hO (DR (c:=⟨w',S',γ',H''⟩) (l:=t.l) h2 h3.2.1 h3.2.2 (by simp) fun b hb _=>J0 w' t.l _ b hb) h3' h4
 exact ⟨v,S2,γ2,rfl,h3.1,k1,k2⟩
theorem Gp {m:Nat} {c c':Ctx} {l:Nat} {o:Obj} (h:ExtB m c c') (hl:l<c.w.heap.size):ExtB m ⟨c.w.putObj l o,c.S,c.γ,c.H⟩ ⟨c'.w.putObj l o,c'.S,c'.γ,c'.H⟩:=by
 have hs:=h.size
 refine ⟨h.hle,h.smono,fun b hb=>?_,fun b hb=>?_,fun b hb hn=>?_,?_,h.os,h.tape,h.output⟩
 ·rw [World.putObj_size]; exact h.snew b hb
 ·rw [World.putObj_size]; exact h.onew b hb
 ·rw [World.putObj_size] at hb
  by_cases e:b=l
  ·subst e
   rw [World.putObj_heap_same hl,World.putObj_heap_same (by omega)]
  ·rw [J0 _ _ _ b e,J0 _ _ _ b e]; exact h.same b hb hn
 ·rw [World.putObj_size,World.putObj_size]; exact hs
theorem YC.frame {P:Program} {t:Tok} {q:Bool} {args:List AV} {H1 H1':List AO} (h:YC P t q args H1 H1') (hlen:H1'.length=H1.length) (hce:t.ce.H.length≤H1.length) (hb:∀ a∈args,Ko H1.length a) (hO:∀ o∈H1,XT H1.length o) (rest:List AO) :
  YC P t q args (H1 ++ rest) (H1' ++ rest):=by
 intro c vs hH hr ht hv
 have htake:c.H.take H1.length=H1:=by rw [hH]; simp
 have hr1:HRel ⟨c.w,c.S,c.γ,H1⟩:=by
  have:=DS hr H1.length (by rw [htake]; exact hO)
  rwa [htake] at this
 have hv1:RepL ⟨c.w,c.S,c.γ,H1⟩ vs args:=⟨hv.1,fun j hj=>by
  have hmem:args.getD j .any∈args:=by rw [List.getD_eq_getElem?_getD,List.getElem?_eq_getElem hj]; exact List.getElem_mem _
  have:=hb _ hmem c _ (hv.2 j hj)
  rwa [htake] at this⟩
 obtain ⟨f,tmps,assign,body,h1,h2⟩:=h ⟨c.w,c.S,c.γ,H1⟩ vs rfl hr1 (ht.cut hH hce) hv1
 refine ⟨f,tmps,assign,body,h1,h2.mono ?_⟩
 rintro e w' ⟨S',γ',rfl,hq,hr',hext⟩
 obtain ⟨γ2,k1,k2,k3⟩:=EL hH hr hlen (x:=.bool q) (v:=.bool q) (.bool q) hr' hext
 exact ⟨S',γ2,rfl,hq,k2,k3⟩
theorem AExec.app {P:Program} {tok:List Tok} {strict:Nat→Bool} {hcall:Bool} {nid:Nat→Option Nat} {all:Array Oper} {N:Nat} {ro:Option Nat} {ds:List Deferred} (hN:∀ o∈all.toList,∀ i,o.dst=some i→i<N) {Q:Exit→Act→World→Prop} {l2:List Nat}:∀ (l:List Nat) {s s':AS} {c:Ctx} {a:Act},St N c a s→(∀ p∈tok,TokOk c p) →
  AExec P tok strict hcall nid all l s s'→(∀ a' c',St N c' a' s'→Ext c c'→wpOpsIn (KU ro) 0 P all Q l2 { a' with defers:=ds } c'.w)→wpOpsIn (KU ro) 0 P all Q (l ++ l2) { a with defers:=ds } c.w
 | [],s,s',c,a,hst,htok,h,hQ=>by
  cases h
  exact hQ a c hst (Ext.refl c)
 | i :: l,s,s',c,a,hst,htok,h,hQ=>by
  obtain ⟨s1,h1,h2⟩:=h
  rw [List.cons_append,wpOpsIn_cons]
  refine h1.sound hst htok hN fun a' c' hst' hx=>?_
  exact AExec.app hN l hst' (fun p hp=>(htok p hp).ext hx) h2 fun a'' c'' hst'' hx'=>hQ a'' c'' hst'' (hx.trans hx')
theorem Marks.size {c0 c1 c:Ctx} (h:c1.w.heap.size=c0.w.heap.size):∀ {ds:List Deferred},Marks c0 c ds→Marks c1 c ds
 | [],_=>trivial
 | _ :: _,⟨⟨D,e,h1,h2,h3⟩,k⟩=>⟨⟨D,e,by rw [h]; exact h1,h2,h3⟩,k.size h⟩
def uI (P:Program) (t:Tok) (o:Oper) (s s1:AS):Prop :=
 o.guard=none∧∃ f args ts as' H',o.op=.call { callee:=.value f,args:=args,argTypes:=ts }∧s.ev f=.yld t.l∧WeakL (args.toList.map s.ev) as'∧YC P t false as' s.h H'∧s1=({ s with h:=H' }:AS).putO o.dst (.bool false)
theorem oy {X:Env} {t:Tok} {id:Nat} {ops:Array Oper} {k:List Item} {s s1 s2 s3:AS} {l1 l2:List Nat} {j:Nat} {o:Oper} (hX:X.out=some (t.l,t.r,JV t.r false)) (hrn:X.rnd=none) (htk:t∈X.tok) (hl:List.range ops.size=l1 ++ j :: l2) (hj:ops[j]?=some o)
  (h1:AExec X.P X.tok (fun _=>false) true (fun _=>none) ops l1 s.clr s1) (h2:uI X.P t o s1 s2) (h3:AExec X.P [] (fun _=>false) true (fun _=>none) ops l2 s2 s3)
  (h:Run ⟨X.P,X.fn,X.str,X.hcs,X.base,none,[],none,X.Q⟩ k s3):Run X (.code (.region id ops false) :: k) s:=by
 intro hm ho hrn' c0 c a ds hst hp b cs hf hk hb
 have hok:=(Qf.1 ho).1
 simp only [KC,Qp,Bool.and_eq_true] at hok
 have hN:=EQ hok.1
 have hN':∀ i,o.dst=some i→i<X.fn.ntmps:=hN o (by simpa using Array.mem_of_getElem? hj)
 have htok:∀ p∈X.tok,TokOk c p:=fun p hp'=>(hp.tok p hp').1
 have key:(Code.region id ops false).wpIn (KU (X.rnd.map (·.1))) 0 X.P (fun e a' w'=>e=.normal∧∃ (a1:Act) (c':Ctx),a'={ a1 with defers:=ds }∧c'.w=w'∧St X.fn.ntmps c' a1 s3∧Kept c' t.l (.loop (JV t.r false))∧Ext c ⟨c'.w.putObj t.l (.loop t.r),c'.S,c'.γ,c'.H⟩) { a with defers:=ds } c.w:=by
  refine wpIn_region ?_
  rw [hl]
  refine AExec.app hN l1 hst.clr htok h1 fun a1 c1 hst1 hx1=>?_
  rw [wpOpsIn_cons]
  unfold wpOpIn
  simp only [hj]
  obtain ⟨hg,f,args,ts,as',H',hop,hfv,hw,hy,rfl⟩:=h2
  rw [show Region.wanted o (yielded ops ({ a1 with defers:=ds }:Act).tmps)=true by unfold Region.wanted; rw [hg]]
  simp only [if_true]
  unfold Oper.wpIn
  refine ⟨fun _ _=>trivial,?_⟩
  rw [Oper.semAt_eq _ _ _ (fun q e=>by rw [hop] at e; cases e)]
  have hrl:=IZ (c:=c1) (ρv:=a1.eval) (ρ:=s1.ev) (fun x=>hst1.ev x) args
  have hv:=hst1.ev f
  rw [hfv] at hv
  have hev:a1.eval f=.func (.yield t.l) #[] #[]:=by generalize a1.eval f=q at hv; cases hv; rfl
  have ht1:TokOk c1 t:=(htok t htk).ext hx1
  obtain ⟨g,tmps,assign,body,q1,q2⟩:=hy c1 _ hst1.heap hst1.hrel ht1 (hrl.weak hw)
  have hrun:(execOp ({ a1 with defers:=ds }:Act).eval o).run X.P c1.w=.ok (.round t.l g tmps assign body) c1.w:=by
   show (execOp a1.eval o).run X.P c1.w=_
   unfold execOp; rw [hop]
   simp [resolve,Deferred.ofValue,hev,invoke,q1]
  rw [hrun,Oper.uponIn_round]
  refine ⟨fun e=>by simp [KU,Fence.wide] at e,RoundIn.mono (F:=KU _) (R:=fun e w'=>∃ S' γ',e=.returned (.bool false)∧w'.heap[t.l]?=some (.loop (JV t.r false))∧HRel ⟨w'.putObj t.l (.loop t.r),S',γ',H'⟩∧Ext c1 ⟨w'.putObj t.l (.loop t.r),S',γ',H'⟩) q2 ?_⟩
  rintro e w' ⟨S',γ',rfl,g1,g2,g3⟩
  have hst2:=hst1.putO g3 g2 (d:=o.dst) (v:=.bool false) (x:=.bool false) (.bool false) hN'
  have hk2:Kept ⟨w'.putObj t.l (.loop t.r),S',γ',H'⟩ t.l (.loop t.r):=ht1.1.ext (g3.toB 0)
  have hst3:=hst2.poke (o':=.loop (JV t.r false)) hk2
  have hk3:=IY (o':=.loop (JV t.r false)) hk2
  have ew:(w'.putObj t.l (.loop t.r)).putObj t.l (.loop (JV t.r false))=w':=by rw [AQ]; exact Aa g1
  simp only [ew] at hst3 hk3
  show wpOpsIn _ _ _ _ _ _ (({ a1 with defers:=ds }:Act).put o.dst (.bool false)) w'
  rw [AR]
  refine AExec.sound hN l2 (tok:=[]) hst3 (fun p hp=>absurd hp List.not_mem_nil) h3 fun a' c' hst' hx=>⟨rfl,a',c',rfl,rfl,hst',hk3.ext (hx.toB 0),?_⟩
  have hsw:=(Gp (o:=.loop t.r) (hx.toB H'.length) hk3.lt).toExt (Nat.le_refl _)
  exact (hx1.trans g3).trans hsw
 obtain ⟨e,a',w',⟨rfl,a1,c',rfl,rfl,hst',hkp,hx⟩,harr⟩:=key b k cs hb trivial (Hl _ _)
 have h0:=hp.out t.l t.r _ hX hrn
 have hx2:ExtB X.base c0 ⟨c'.w.putObj t.l (.loop t.r),c'.S,c'.γ,c'.H⟩:=hp.ext.trans (hx.toB _)
 have e5:(c'.w.putObj t.l (.loop t.r)).putObj t.l (.loop (JV t.r false))=c'.w:=by rw [AQ]; exact Aa hkp.1
 have hx3:=Gp (o:=.loop (JV t.r false)) hx2 h0.lt
 simp only [e5] at hx3
 have hkp0:Kept ⟨c'.w.putObj t.l (.loop t.r),c'.S,c'.γ,c'.H⟩ t.l (.loop t.r):=h0.ext hx2
 have hmk:=(hp.marks.ext (hx.toB 0)).pokeLoop hkp0 (.loop (JV t.r false))
 simp only [e5] at hmk
 obtain ⟨v,fr,r,c'',g1,g2,g3,g4,g5,g6,g7⟩:=h hm (Qf.1 ho).2 (fun e=>by cases e) ⟨c0.w.putObj t.l (.loop (JV t.r false)),c0.S,c0.γ,c0.H⟩ c' a1 ds hst'
  ⟨hx3,fun p hp=>absurd hp List.not_mem_nil,fun l r e=>(by cases e),hmk.size (by simp),fun _ _ _ e _=>(by cases e)⟩ b cs hf hk (by rw [hb,hrn])
 replace g5:ExtB X.base ⟨c0.w.putObj t.l (.loop (JV t.r false)),c0.S,c0.γ,c0.H⟩ c'':=g5
 refine ⟨v,fr,r,c'',Steps.trans (DD.1 harr) g1,?_,g3,g4,?_,fun l r e=>(by rw [hrn] at e; cases e),g7⟩
 ·unfold kP at g2 ⊢
  rw [hrn]
  exact g2
 ·unfold Te
  rw [hX,hrn]
  refine ⟨(IY h0).ext g5,?_⟩
  have:=Gp (o:=.loop t.r) g5 (by simpa using h0.lt)
  simp only [AQ] at this
  rw [Aa h0.1] at this
  exact this
theorem St.ext {N:Nat} {c c':Ctx} {a:Act} {s:AS} (h:St N c a s) (hx:Ext c c') (hr:HRel c'):St N c' a { s with h:=c'.H }:=⟨h.size,h.defers,fun i=>hx.rep h.hrel (h.slots i),rfl,hr⟩
theorem Ex (w:World) (o:Obj):∀ b,b<w.heap.size→(w.alloc o).heap[b]?=w.heap[b]?:=fun b hb=>by
 show (w.heap.push o)[b]?=_
 rw [Array.getElem?_push_lt hb,Array.getElem?_eq_getElem hb]
def q9:Bool→Option Code
 | true=>none
 | false=>some .ret
def uP (q:Bool) (k:List Item):List Item:=((q9 q).map Item.code).toList ++ k
theorem Dv {X:Env} (q:Bool) {f:Operand} {ps:Array Nat} {assign body:Code} {k:List Item} {s:AS} {gf:FuncId} {caps:List AV} {Hn:List AO} (hX:X.rnd=none) (htk:X.tok=[]) (hf:s.ev f=.fn gf caps)
  (hit:∀ t:Tok,LoopIs X.P X.fn ps assign body s t→ICallQ X.P t q gf (.yld t.l :: caps) s.h Hn) (hk:Run X (uP q k) { s with h:=Hn }):Run X (.code (.rangeFunc f ps assign body) :: k) s:=by
 intro hm ho hrn c0 c a ds hst hp b cs hf' hk' hb
 have hb0:b.roundOf=none:=by rw [hb,hX]; rfl
 obtain ⟨rec,hrec⟩:∃ rec:Loop,rec={ state:=.ready,pending:=none,fn:=b.fn,tmps:=a.tmps,params:=ps,assign:=assign,body:=body,defers:=c.w.heap.size }:=⟨_,rfl⟩
 obtain ⟨w1,hw1⟩:∃ w1,w1=(c.w.alloc (.deferred (some []))).alloc (.loop rec):=⟨_,rfl⟩
 have he:=run_enterLoop_outer (P:=X.P) (w:=c.w) b.fn a.tmps ps assign body
 rw [← hrec,← hw1,← hb0] at he
 have hD1:w1.heap[c.w.heap.size]?=some (.deferred (some [])):=by
  rw [hw1,Ex _ _ _ (by rw [World.size_alloc]; omega)]; exact World.alloc_heap_new _ _
 have hL1:w1.heap[c.w.heap.size+1]?=some (.loop rec):=by
  rw [hw1]; have:=World.alloc_heap_new (c.w.alloc (.deferred (some []))) (.loop rec); rwa [World.size_alloc] at this
 have hold:∀ q,q<c.w.heap.size→w1.heap[q]?=c.w.heap[q]?:=fun q hq=>by
  rw [hw1,Ex _ _ _ (by rw [World.size_alloc]; omega),Ex _ _ _ hq]
 have hsz:c.w.heap.size≤w1.heap.size:=by rw [hw1,World.size_alloc,World.size_alloc]; omega
 have hx1:Ext c ⟨w1,c.S,c.γ,c.H⟩:=⟨HLe.refl c,fun _ h=>h,fun _ h=>.inl h,fun _ h=>.inr h,fun q hq _=>hold q hq,hsz,by rw [hw1]; rfl,by rw [hw1]; rfl,by rw [hw1]; rfl⟩
 have hr1:HRel ⟨w1,c.S,c.γ,c.H⟩:=DR (l:=c.w.heap.size) hst.hrel (fun q=>by have:=hst.hrel.bound _ q; omega) (fun q=>by have:=hst.hrel.ownLt q; omega) hsz (fun q _ hq=>hold q hq)
 have hst1:St X.fn.ntmps ⟨w1,c.S,c.γ,c.H⟩ a s:=by
  have:=hst.ext hx1 hr1
  rwa [show ({ s with h:=(⟨w1,c.S,c.γ,c.H⟩:Ctx).H }:AS)=s by show ({ s with h:=c.H }:AS)=s; rw [hst.heap]] at this
 have hkL:Kept ⟨w1,c.S,c.γ,c.H⟩ (c.w.heap.size+1) (.loop rec):=⟨hL1,fun q=>by have:=hst.hrel.bound _ q; omega,fun q=>by have:=hst.hrel.ownLt q; omega⟩
 have hkD:Kept ⟨w1,c.S,c.γ,c.H⟩ c.w.heap.size (.deferred (some [])):=⟨hD1,fun q=>by have:=hst.hrel.bound _ q; omega,fun q=>by have:=hst.hrel.ownLt q; omega⟩
 obtain ⟨t,ht⟩:∃ t:Tok,t=⟨c.w.heap.size+1,rec,⟨w1,c.S,c.γ,c.H⟩⟩:=⟨_,rfl⟩
 have htl:t.l=c.w.heap.size+1:=by rw [ht]
 have hLI:LoopIs X.P X.fn ps assign body s t:=by
  rw [ht,hrec]
  exact ⟨rfl,rfl,hf',rfl,rfl,rfl,⟨a,rfl,hrec▸hst1⟩,hst.heap⟩
 obtain ⟨hent,hcall⟩:=hit t hLI
 have hfv:=hst.ev f
 rw [hf] at hfv
 obtain ⟨lb,hlb,hrl⟩:∃ lb:Array Value,a.eval f=.func (.func gf) #[] lb∧RepL c lb caps:=by
  generalize a.eval f=q at hfv
  cases hfv with
  | fn _ vs _ h1 h2=>exact ⟨vs,rfl,h1,h2⟩
 have hres:(resolve a.eval (rangeCall f (c.w.heap.size+1)) 0).run X.P w1=.ok { target:=.fn (.func gf) lb,args:=#[.func (.yield (c.w.heap.size+1)) #[] #[]] } w1:=by
  simp only [resolve,hlb]
  simp [go_sem]
 have hinv:(invoke (.fn (.func gf) lb) #[.func (.yield (c.w.heap.size+1)) #[] #[]]).run X.P w1=.ok (.enter gf (#[.func (.yield (c.w.heap.size+1)) #[] #[]] ++ lb)) w1:=by
  simp [invoke,hent _ _]
 have henter:=stepR_rangeFunc (P:=X.P) (b:=b) (a:={ a with defers:=ds }) (k:=k) (cs:=cs) (w:=c.w) he hres hinv
 have hargs:RepL ⟨w1,c.S,c.γ,c.H⟩ (#[.func (.yield (c.w.heap.size+1)) #[] #[]] ++ lb) (.yld t.l :: caps):=by
  have h1:RepL ⟨w1,c.S,c.γ,c.H⟩ #[.func (.yield (c.w.heap.size+1)) #[] #[]] [.yld t.l]:=⟨rfl,fun j hj=>by
   obtain rfl:j=0:=by simpa using hj
   rw [htl]; exact .yld _⟩
  have h2:RepL ⟨w1,c.S,c.γ,c.H⟩ lb caps:=⟨hrl.1,fun j hj=>hx1.rep hst.hrel (hrl.2 j hj)⟩
  exact Bj h1 h2
 have htok:TokOk ⟨w1,c.S,c.γ,c.H⟩ t:=by rw [ht]; exact ⟨hkL,Ext.refl _⟩
 obtain ⟨e,w3,fr,⟨v,S',γ',rfl,hrec3,hr3',hx3'⟩,hsteps,hfn,hleave⟩:=hcall ⟨w1,c.S,c.γ,c.H⟩ _ hst.heap hr1 htok hargs (b.atR { a with defers:=[RC c.w.heap.size] ++ ds } (.inRangeFunc (c.w.heap.size+1) :: k) :: cs)
 rw [htl,show t.r=rec by rw [ht]] at hrec3 hr3' hx3'
 obtain ⟨wp,hwp⟩:∃ wp,wp=w3.putObj (c.w.heap.size+1) (.loop rec):=⟨_,rfl⟩
 rw [← hwp] at hr3' hx3'
 have hr3:=hr3'
 have hx3:=hx3'
 have hkL3:=hkL.ext (hx3.toB 0)
 have hkD3:=hkD.ext (hx3.toB 0)
 have hend:=run_endLoop (P:=X.P) hrec3 (by rw [hrec]; cases q <;> simp [JV])
 obtain ⟨rx,hrx⟩:∃ rx:Loop,rx={ JV rec q with state:=.exhausted }:=⟨_,rfl⟩
 rw [← hrx] at hend
 have hpend:(JV rec q).pending=q9 q:=by rw [hrec]; cases q <;> rfl
 rw [hpend] at hend
 have ewp:w3.putObj (c.w.heap.size+1) (.loop rx)=wp.putObj (c.w.heap.size+1) (.loop rx):=by rw [hwp,AQ]
 rw [ewp] at hend
 have hback:=step_leave_returned (c:=b.atR { a with defers:=[RC c.w.heap.size] ++ ds } (.inRangeFunc (c.w.heap.size+1) :: k)) (cs:=cs) hleave
 rw [finish_atR_inRangeFunc] at hback
 have hout:=stepR_endRangeFunc (P:=X.P) (b:=b) (a:={ a with defers:=[RC c.w.heap.size] ++ ds }) (k:=k) (cs:=cs) hend
 have hst3:St X.fn.ntmps ⟨wp,S',γ',Hn⟩ a { s with h:=Hn }:=hst1.ext hx3 hr3
 have hst4:=hst3.poke (o':=.loop rx) hkL3
 have hxB:ExtB X.base c0 ⟨wp.putObj (c.w.heap.size+1) (.loop rx),S',γ',Hn⟩:=by
  have h1:=(hp.ext.trans (hx1.toB _)).trans (hx3.toB _)
  have h2:=hp.ext.size
  exact PZ (c:=⟨wp,S',γ',Hn⟩) (l:=c.w.heap.size+1) h1 (by omega) (by simp) (J0 _ _ _) rfl rfl rfl
 have hmk:Marks c0 ⟨wp.putObj (c.w.heap.size+1) (.loop rx),S',γ',Hn⟩ (RC c.w.heap.size :: ds):=by
  have hd:∀ ds:List Deferred,Marks c0 c ds→RC c.w.heap.size∉ds:=by
   intro ds
   induction ds with
   | nil=>simp
   | cons d ds ih =>
    rintro ⟨⟨D,rfl,q1,q2,q3⟩,q⟩ hmem
    rcases List.mem_cons.1 hmem with e | e
    ·have:c.w.heap.size=D:=by injection e with e1; injection e1
     have:=q2.lt
     omega
    ·exact ih q e
  refine ⟨⟨_,rfl,hp.ext.size,hkD3.poke (by omega) (J0 _ _ _),hd ds hp.marks⟩,?_⟩
  exact (((hp.marks.ext (hx1.toB 0)).ext (hx3.toB 0))).pokeLoop hkL3 _
 obtain ⟨v',fr',r',c',k1,k2⟩:=hk hm (by cases q with
  | true=>exact (Qf.1 ho).2
  | false=>exact Qf.2 ⟨rfl,(Qf.1 ho).2⟩) hrn c0 ⟨wp.putObj (c.w.heap.size+1) (.loop rx),S',γ',Hn⟩ a (RC c.w.heap.size :: ds) hst4
  ⟨hxB,fun p hp'=>absurd hp' (by rw [htk]; exact List.not_mem_nil),fun l r e=>(by rw [hX] at e; cases e),hmk,hp.out⟩ b cs hf' hk' hb
 refine ⟨v',fr',r',c',.head henter (Steps.trans (show Steps X.P _ _ from hsteps) (  .head hback (.head hout k1))),?_,k2.2⟩
 have:=k2.1
 unfold kP at this ⊢
 rw [hX] at this ⊢
 exact this
theorem Er {X:Env} {f:Operand} {ps:Array Nat} {assign body:Code} {k:List Item} {s:AS} {gf:FuncId} {caps:List AV} {Hn:List AO} (hX:X.rnd=none) (htk:X.tok=[]) (hf:s.ev f=.fn gf caps)
  (hit:∀ t:Tok,LoopIs X.P X.fn ps assign body s t→ICall X.P t gf (.yld t.l :: caps) s.h Hn) (hk:Run X k { s with h:=Hn }):Run X (.code (.rangeFunc f ps assign body) :: k) s :=
 Dv true hX htk hf hit hk
section
variable (P:Program) (fn:Func) (str hcs:List Nat) (m l:Nat) (r:Loop) (t:Tok) (H:List AO)
theorem rE:(U5 P fn str hcs t m H).P=P:=nrfl rfl
theorem gt:(U5 P fn str hcs t m H).str=str:=nrfl rfl
theorem gr:(U5 P fn str hcs t m H).hcs=hcs:=nrfl rfl
theorem rH:(PR P fn str hcs m l r H).P=P:=nrfl rfl
theorem gC:(PR P fn str hcs m l r H).str=888888 :: str:=nrfl rfl
theorem gz:(PR P fn str hcs m l r H).hcs=hcs:=nrfl rfl
theorem rF:(gu P fn str hcs t m H).P=P:=nrfl rfl
theorem gv:(gu P fn str hcs t m H).str=str:=nrfl rfl
theorem rG:(U6 P fn str hcs m l r H).P=P:=nrfl rfl
theorem gw:(U6 P fn str hcs m l r H).str=888888 :: str:=nrfl rfl
end
theorem tS {P:Program} {fn:Func} {str hcs:List Nat} {t:Tok} {m:Nat} {H:List AO} {s:AS} (hr:fn.results=#[]) (h:s.h.take m=H):RetE (U5 P fn str hcs t m H) s :=
 ⟨.tup [],by show KQ P fn s=_; simp [KQ,hr,J6,ZD],h⟩
theorem xp {P:Program} {fn:Func} {str hcs:List Nat} {m:Nat} {H:List AO} {s:AS} (hr:fn.results=#[]) (h:s.h.take m=H):RetOk (vp P fn str hcs m H) s :=
 ⟨.tup [],by show KQ P fn s=_; simp [KQ,hr,J6,ZD],h⟩
theorem ou {P:Program} {fn:Func} {str hcs:List Nat} {m l:Nat} {r:Loop} {H:List AO} {s:AS} (h:s.h.take m=H):RetE (PR P fn str hcs m l r H) s:=⟨.any,rfl,h⟩
theorem xq {P:Program} {fn:Func} {str hcs:List Nat} {m l:Nat} {r:Loop} {H:List AO} {s:AS} (h:s.h.take m=H):RetOk (U6 P fn str hcs m l r H) s:=⟨.any,rfl,h⟩
theorem EI {P:Program} {fn:Func} {str hcs:List Nat} {m l:Nat} {r:Loop} {H:List AO} {k:List Item} {s:AS} (hr:r.state=.ready) (h:Run (PR P fn str hcs m l { r with state:=.busy } H) k s):Run (PR P fn str hcs m l r H) (.beginRound :: k) s :=
 NB (X:=PR P fn str hcs m l r H) rfl rfl hr h
theorem U7 {P:Program} {fn:Func} {str hcs:List Nat} {m l:Nat} {r:Loop} {H:List AO} {k:List Item} {s:AS} (hr:r.state=.ready) (h:Run (U6 P fn str hcs m l { r with state:=.busy } H) k s):Run (U6 P fn str hcs m l r H) (.beginRound :: k) s :=
 NB (X:=U6 P fn str hcs m l r H) rfl rfl hr h
theorem LU (X:Env) (n:Nat) (f:Operand) (ps:Array Nat) (a b:Code) (k:List Item) (s:AS):vc X (n+1) (.code (.rangeFunc f ps a b) :: k) s=WZ X (.code (.rangeFunc f ps a b) :: k) .mk s:=nrfl rfl
theorem WW (X:Env) (n:Nat) (k:List Item) (s:AS):vc X (n+1) (.beginRound :: k) s=WZ X (.beginRound :: k) .mk s:=nrfl rfl
set_option linter.defProp false
def Ka:=And.intro @LU <| And.intro @WW <| And.intro @rE <| And.intro @gt <| And.intro @gr <| And.intro @rH <| And.intro @gC <| And.intro @gz <| And.intro @rF <| And.intro @gv <| And.intro @rG <| @gw
end
end Go.Ab
