/- A layer of abstract values and heaps over the model; what is proved here is that its steps and contracts are sound, for every program. -/
import Derived.Test.YtcmfnmceomhgcaaGreatAb3
import Derived.WalkKit
import Derived.ProofKit
import Derived.OpenShut
import Derived.JoinedCond
import Derived.Carry
open And renaming intro → XK
set_option linter.unusedSimpArgs false
set_option linter.unusedVariables false
namespace Go.Ab
open Go Go.RowKit
noncomputable section
theorem EN {c:Ctx}(hr:HRel c)(m:Nat)(hO:∀o∈c.H.take m,Qa m o):HRel ⟨c.w,c.S,c.γ,c.H.take m⟩:=by
 have hget:∀ (i:Nat) (o:AO),(c.H.take m)[i]?=some o→c.H[i]?=some o∧i<m:=by
  intro i o ho;rw[List.getElem?_take]at ho
  split at ho
  ·exact⟨ho,by assumption⟩
  ·cases ho
 have hmem:∀ (i:Nat) (o:AO),(c.H.take m)[i]?=some o→Qa m o:=fun i o ho=>hO o (List.mem_of_getElem? ho)
 refine⟨?_,?_,?_,?_,hr.bound⟩
 ·intro id v n f ho
  have hb:=hmem _ _ ho;rcases hr.row id v n f (hget _ _ ho).1 with h | ⟨b,sz,cs,el,g1,g2,g3,g4,g5,g6⟩
  ·exact .inl h
  ·exact .inr ⟨b,sz,cs,el,g1,g2,g3,g4,g5,fun j hj=>hb j hj c _ (g6 j hj)⟩
 ·intro id v n f ho
  have hb:=hmem _ _ ho;rcases hr.con id v n f (hget _ _ ho).1 with h | ⟨b,sz,cs,el,fr,g1,g2,g3,g4,g5,g6⟩
  ·exact .inl h
  ·exact .inr ⟨b,sz,cs,el,fr,g1,g2,g3,g4,g5,fun j hj=>hb j hj c _ (g6 j hj)⟩
 ·intro id k g ho
  have hb:=hmem _ _ ho;obtain⟨b,sz,es,cl,g1,g2,g3,g4⟩:=hr.map id k g (hget _ _ ho).1;exact⟨b,sz,es,cl,g1,g2,g3,g4.keys,g4.uniq,fun n a hn=>let ⟨e,he,hk,hr⟩:=g4.hit n a hn; ⟨e,he,hk,hb n a hn c _ hr⟩,g4.miss⟩
 ·intro i i' o o' b sz sz' ho ho' g1 g2 hg hg'
  exact hr.inj _ _ _ _ _ _ _ (hget _ _ ho).1 (hget _ _ ho').1 g1 g2 hg hg'
theorem iq {w:World}{S:Nat→Prop}{γ γ':Nat→Option (Nat×Nat)} {H rest:List AO} (hγ:∀id,id<H.length→γ' id=γ id) (w':World) (S':Nat→Prop):HLe ⟨w,S,γ,H⟩ ⟨w',S',γ',H ++ rest⟩:=by
 intro id o ho;have ho':H[id]?=some o:=ho;have hlt:=(List.getElem?_eq_some_iff.1 ho').1;have h1:(H ++ rest)[id]?=some o:=by rw[List.getElem?_append_left hlt];exact ho
 have hg:=hγ id hlt;cases o with
 |unborn=>trivial
 |dead=>exact h1
 |row v _ _=>exact .inr ⟨v,by simp[inf,h1,AO.info],.inr ⟨rfl,hg⟩⟩
 |con v _ _=>exact .inr ⟨v,by simp[inf,h1,AO.info],.inr ⟨rfl,hg⟩⟩
 |map k g=>exact .inr ⟨⟨k,g,h1⟩,hg⟩
theorem FC {c:Ctx}{H1 H1' rest:List AO}{v:AV}(hH:c.H=H1 ++ rest)(hr:HRel c)(hlen:H1'.length=H1.length){w':World}{S':Nat→Prop}{γ':Nat→Option (Nat×Nat)} {x:Value}
  (hx:Rep ⟨w',S',γ',H1'⟩ x v) (hr':HRel ⟨w',S',γ',H1'⟩) (hext:Ext ⟨c.w,c.S,c.γ,H1⟩ ⟨w',S',γ',H1'⟩):∃γ2,Rep ⟨w',S',γ2,H1' ++ rest⟩ x v∧HRel ⟨w',S',γ2,H1' ++ rest⟩∧Ext c ⟨w',S',γ2,H1' ++ rest⟩:=by
 have old:∀ (id:Nat) (o:AO),H1[id]?=some o→c.H[id]?=some o:=fun id o ho=>by
  rw[hH,List.getElem?_append_left (List.getElem?_eq_some_iff.1 ho).1];exact ho
 have own1:∀b,ZK ⟨c.w,c.S,c.γ,H1⟩ b→ZK c b:=fun b ⟨id,o,sz,ho,hown,hg⟩=>⟨id,o,sz,old id o ho,hown,hg⟩
 let γ2:Nat→Option (Nat×Nat):=fun id=>if id<H1.length then γ' id else c.γ id
 have g2a:∀id,id<H1.length→γ2 id=γ' id:=fun id hid=>if_pos hid
 have g2b:∀id,¬id<H1.length→γ2 id=c.γ id:=fun id hid=>if_neg hid
 have newAt:∀ (id:Nat) (o:AO),(H1' ++ rest)[id]?=some o→(id<H1.length∧H1'[id]?=some o)∨(¬id<H1.length∧c.H[id]?=some o):=by
  intro id o ho;by_cases hid:id<H1.length
  ·exact .inl ⟨hid,by rwa[List.getElem?_append_left (by omega)]at ho⟩
  ·refine .inr ⟨hid,?_⟩
   rw[List.getElem?_append_right (by omega),hlen]at ho;rw[hH,List.getElem?_append_right (by omega)];exact ho
 have lift:∀ {u a},Rep ⟨w',S',γ',H1'⟩ u a→Rep ⟨w',S',γ2,H1' ++ rest⟩ u a:=fun hu =>
  hu.ext (fun _ h=>h) (fun _ _=>rfl) (iq (fun id hid=>g2a id (by rw[←hlen];exact hid)) _ _)
 have apart:∀ (id:Nat) (o:AO) (b sz:Nat),¬id<H1.length→c.H[id]?=some o→o.owned=true→c.γ id=some (b,sz)→¬ZK ⟨c.w,c.S,c.γ,H1⟩ b:=by
  rintro id o b sz hid ho hown hg ⟨id',o',sz',ho',hown',hg'⟩;have:=hr.inj id id' o o' b sz sz' ho (old id' o' ho') hown hown' hg hg';have hlt:=(List.getElem?_eq_some_iff.1 (show H1[id']?=some o' from ho')).1;omega
 have hextC:Ext c ⟨w',S',γ2,H1' ++ rest⟩:=by
  refine⟨?_,hext.smono,fun b hb=>(hext.snew b hb).imp id (Or.imp id (own1 b)),?_,fun b hlt hno=>hext.same b hlt (fun ho=>hno (own1 b ho)),hext.size,hext.os,hext.tape,hext.output⟩
  ·intro id o ho
   by_cases hid:id<H1.length
   ·have ho1:H1[id]?=some o:=by rw[hH,List.getElem?_append_left hid]at ho;exact ho
    have h1:=hext.hle id o ho1;have hinf:inf (H1' ++ rest) id=inf H1' id:=by unfold inf;rw[List.getElem?_append_left (by omega)]
    have hget:(H1' ++ rest)[id]?=H1'[id]?:=List.getElem?_append_left (by omega);cases o with
    |unborn=>trivial
    |dead=>show(H1' ++ rest)[id]?=_;rw[hget];exact h1
    |row v _ _ =>
     show(H1' ++ rest)[id]?=_∨∃v',inf (H1' ++ rest) id=_∧(_∨(_∧γ2 id=_));rw[hget,hinf,g2a id hid];exact h1
    |con v _ _ =>
     show(H1' ++ rest)[id]?=_∨∃v',inf (H1' ++ rest) id=_∧(_∨(_∧γ2 id=_));rw[hget,hinf,g2a id hid];exact h1
    |map k g =>
     show(H1' ++ rest)[id]?=_∨((∃k g,(H1' ++ rest)[id]?=_)∧γ2 id=_);rw[hget,g2a id hid];exact h1
   ·have hget:(H1' ++ rest)[id]?=c.H[id]?:=by rw[List.getElem?_append_right (by omega),hlen,hH,List.getElem?_append_right (by omega)]
    have hinf:inf (H1' ++ rest) id=inf c.H id:=by unfold inf;rw[hget]
    have h1:=HLe.refl c id o ho;cases o with
    |unborn=>trivial
    |dead=>show(H1' ++ rest)[id]?=_;rw[hget];exact h1
    |row v _ _ =>
     show(H1' ++ rest)[id]?=_∨∃v',inf (H1' ++ rest) id=_∧(_∨(_∧γ2 id=_));rw[hget,hinf,g2b id hid];exact h1
    |con v _ _ =>
     show(H1' ++ rest)[id]?=_∨∃v',inf (H1' ++ rest) id=_∧(_∨(_∧γ2 id=_));rw[hget,hinf,g2b id hid];exact h1
    |map k g =>
     show(H1' ++ rest)[id]?=_∨((∃k g,(H1' ++ rest)[id]?=_)∧γ2 id=_);rw[hget,g2b id hid];exact h1
  ·rintro b ⟨id,o,sz,ho,hown,hg⟩
   rcases newAt id o ho with⟨hid,ho'⟩ | ⟨hid,ho'⟩
   ·exact(hext.onew b ⟨id,o,sz,ho',hown,(g2a id hid).symm.trans hg⟩).imp (fun h=>h) (own1 b)
   ·exact .inr ⟨id,o,sz,ho',hown,(g2b id hid).symm.trans hg⟩
 have keep:∀ (id:Nat) (o:AO) (b sz:Nat),¬id<H1.length→c.H[id]?=some o→o.owned=true→c.γ id=some (b,sz)→b<c.w.heap.size→¬c.S b→w'.heap[b]?=c.w.heap[b]?∧¬S' b:=by
  intro id o b sz hid ho hown hg hlt hnS;have hno:=apart id o b sz hid ho hown hg;refine⟨hext.same b hlt hno,fun hs=>?_⟩;rcases hext.snew b hs with h |h |h
  ·exact hnS h
  ·exact absurd hlt (Nat.not_lt.2 h)
  ·exact hno h
 refine⟨γ2,lift hx,⟨?_,?_,?_,?_,hr'.bound⟩,hextC⟩
 ·intro id ver n g ho
  rcases newAt id _ ho with⟨hid,ho'⟩ | ⟨hid,ho'⟩
  ·rw[show(⟨w',S',γ2,H1' ++ rest⟩:Ctx).γ id=γ' id from g2a id hid]
   rcases hr'.row id ver n g ho' with h | ⟨b,sz,cs,el,k1,k2,k3,k4,k5,k6⟩
   ·exact .inl h
   ·exact .inr ⟨b,sz,cs,el,k1,k2,k3,k4,k5,fun j hj=>lift (k6 j hj)⟩
  ·rw[show(⟨w',S',γ2,H1' ++ rest⟩:Ctx).γ id=c.γ id from g2b id hid]
   rcases hr.row id ver n g ho' with h | ⟨b,sz,cs,el,k1,k2,k3,k4,k5,k6⟩
   ·exact .inl h
   ·obtain⟨q1,q2⟩:=keep id _ b sz hid ho' rfl k1 (Array.getElem?_eq_some_iff.1 k2).1 k5
    exact .inr ⟨b,sz,cs,el,k1,q1.trans k2,k3,k4,q2,fun j hj=>hextC.rep hr (k6 j hj)⟩
 ·intro id ver n g ho
  rcases newAt id _ ho with⟨hid,ho'⟩ | ⟨hid,ho'⟩
  ·rw[show(⟨w',S',γ2,H1' ++ rest⟩:Ctx).γ id=γ' id from g2a id hid]
   rcases hr'.con id ver n g ho' with h | ⟨b,sz,cs,el,fr,k1,k2,k3,k4,k5,k6⟩
   ·exact .inl h
   ·exact .inr ⟨b,sz,cs,el,fr,k1,k2,k3,k4,k5,fun j hj=>lift (k6 j hj)⟩
  ·rw[show(⟨w',S',γ2,H1' ++ rest⟩:Ctx).γ id=c.γ id from g2b id hid]
   rcases hr.con id ver n g ho' with h | ⟨b,sz,cs,el,fr,k1,k2,k3,k4,k5,k6⟩
   ·exact .inl h
   ·have hno:¬ZK ⟨c.w,c.S,c.γ,H1⟩ b:=fun h=>hr.notOwn k5 (own1 b h)
    exact .inr ⟨b,sz,cs,el,fr,k1,(hext.same b (hr.bound b k5) hno).trans k2,k3,k4,hext.smono b k5,fun j hj=>hextC.rep hr (k6 j hj)⟩
 ·intro id k g ho
  rcases newAt id _ ho with⟨hid,ho'⟩ | ⟨hid,ho'⟩
  ·rw[show(⟨w',S',γ2,H1' ++ rest⟩:Ctx).γ id=γ' id from g2a id hid]
   obtain⟨b,sz,es,cl,k1,k2,k3,k4⟩:=hr'.map id k g ho';exact⟨b,sz,es,cl,k1,k2,k3,k4.ext fun v a hv=>lift hv⟩
  ·rw[show(⟨w',S',γ2,H1' ++ rest⟩:Ctx).γ id=c.γ id from g2b id hid]
   obtain⟨b,sz,es,cl,k1,k2,k3,k4⟩:=hr.map id k g ho';obtain⟨q1,q2⟩:=keep id _ b sz hid ho' rfl k1 (Array.getElem?_eq_some_iff.1 k2).1 k3;exact⟨b,sz,es,cl,k1,q1.trans k2,q2,k4.ext fun v a hv=>hextC.rep hr hv⟩
 ·have mix:∀ (id id':Nat) (o o':AO) (b sz sz':Nat),id<H1.length→H1'[id]?=some o→o.owned=true→γ' id=some (b,sz)→¬id'<H1.length→c.H[id']?=some o'→o'.owned=true→c.γ id'=some (b,sz')→False:=by
   intro id id' o o' b sz sz' hid ho hown hg hid' ho' hown' hg';have hlt:b<c.w.heap.size:=hr.ownLt ⟨id',o',sz',ho',hown',hg'⟩;rcases hext.onew b ⟨id,o,sz,ho,hown,hg⟩with h |h
   ·exact absurd hlt (Nat.not_lt.2 h)
   ·exact apart id' o' b sz' hid' ho' hown' hg' h
  intro id id' o o' b sz sz' ho ho' h1 h2 hg hg';rcases newAt id o ho with⟨hid,k1⟩ | ⟨hid,k1⟩ <;> rcases newAt id' o' ho' with⟨hid',k2⟩ | ⟨hid',k2⟩
  ·exact hr'.inj id id' o o' b sz sz' k1 k2 h1 h2 ((g2a id hid).symm.trans hg) ((g2a id' hid').symm.trans hg')
  ·exact(mix id id' o o' b sz sz' hid k1 h1 ((g2a id hid).symm.trans hg) hid' k2 h2 ((g2b id' hid').symm.trans hg')).elim
  ·exact(mix id' id o' o b sz' sz hid' k2 h2 ((g2a id' hid').symm.trans hg') hid k1 h1 ((g2b id hid).symm.trans hg)).elim
  ·exact hr.inj id id' o o' b sz sz' k1 k2 h1 h2 ((g2b id hid).symm.trans hg) ((g2b id' hid').symm.trans hg')
theorem HCall.frame {P:Program}{f:FuncId}{args:List AV}{H1 H1':List AO}{v:AV}(h:HCall P f args H1 v H1')(hlen:H1'.length=H1.length)(hb:∀ a∈args,Jq H1.length a)(hO:∀ o∈H1,Qa H1.length o)(rest:List AO) :
  HCall P f args (H1 ++ rest) v (H1' ++ rest):=by
 refine⟨h.1,fun c vs hH hr hv=>?_⟩;have htake:c.H.take H1.length=H1:=by rw[hH];simp
 have hr1:HRel ⟨c.w,c.S,c.γ,H1⟩:=by
  have:=EN hr H1.length (by rw[htake];exact hO);rwa[htake]at this
 have hv1:RepL ⟨c.w,c.S,c.γ,H1⟩ vs args:=⟨hv.1,fun j hj=>by
  have hmem:args.getD j .any∈args:=by rw[List.getD_eq_getElem?_getD,List.getElem?_eq_getElem hj];exact List.getElem_mem _
  have:=hb _ hmem c _ (hv.2 j hj);rwa[htake]at this⟩
 refine(h.2 ⟨c.w,c.S,c.γ,H1⟩ vs rfl hr1 hv1).mono ?_;rintro e w' ⟨x,S',γ',rfl,hx,hr',hext⟩;obtain⟨γ2,k1,k2,k3⟩:=FC hH hr hlen hx hr' hext;exact⟨x,S',γ2,rfl,k1,k2,k3⟩
def Hj (P:Program)(fn:Func)(str hcs:List Nat)(m:Nat)(r:AV)(H':List AO):Env:=⟨P,fn,str,hcs,m,none,[],none,fun v H=>v=r∧H.take m=H'⟩
@[simp] theorem resX_C (P:Program)(fn:Func)(str hcs:List Nat)(m:Nat)(r:AV)(H:List AO)(s:AS):Sj (Hj P fn str hcs m r H) s=ZN P fn s:=rfl
theorem HCall.introC {P:Program}{f:FuncId}{fn:Func}{body:Code}(he:BL P f)(hf:P.funcs[f]?=some fn)(hb:fn.body=some body)(hm:P.follows .mixedOrders=true){args:List AV}{H H':List AO}{r:AV}
  (n0:Nat) (hid str hcs:List Nat) (hok:QC fn.ntmps str hcs body=true) (hlen:args.length≤fn.ntmps) (hr:Jq H.length r) (hO:∀o∈H',Qa H.length o)
  (h:Run (Hj P fn str hcs H.length r H') [.code body] (AS.start n0 hid args H)):HCall P f args H r H':=by
 refine⟨he,?_⟩;rintro c vs rfl hrc hv;refine Bo (X:=Hj P fn str hcs c.H.length r H') hf hb hm hok rfl hrc hv hlen h (fun p hp=>absurd hp (List.not_mem_nil)) ?_;rintro v r' ⟨w',S',γ',H''⟩ h1 h2 h3 ⟨rfl,rfl⟩;have hst:St 1 ⟨w',S',γ',H''⟩ { tmps:=#[v],defers:=[] } ⟨0,[],[],[(0,r')],H''⟩:=by
  refine⟨rfl,rfl,fun i=>?_,rfl,h2⟩;unfold AS.get;simp only[Nat.not_lt_zero,if_false,XA]
  split
  ·rename_i hi;subst hi;exact h1
  ·exact .any _
 obtain⟨c',hw,hx,hst'⟩:=XT (b:=c.H.length) (m:=c.H.length) (s:=⟨0,[],[],[(0,r')],H''⟩) (s':=⟨0,[],[],[(0,r')],H''.take c.H.length⟩) (Nat.le_refl _) rfl trivial ⟨.inr rfl,trivial⟩ rfl (by simp) (by simp;exact hr) hO _ _ _ hst;have hv':=hst'.slots 0;have hH:=hst'.heap;have hrel:=hst'.hrel;obtain⟨w2,S2,γ2,H2⟩:=c';cases hw;cases hH;refine⟨v,S2,γ2,rfl,by simpa [AS.get,XA]using hv',hrel,?_⟩;exact(h3.trans hx).toExt (Nat.le_refl _)
def Ke (H:List AO)(a b:AV):Prop:=∀ (c:Ctx) (v:Value),c.H=H→HRel c→Rep c v a→Rep c v b
theorem XL (H:List AO)(a:AV):Ke H a a:=fun _ _ _ _ h=>h
theorem V8 {H:List AO}{id ver k:Nat}{f g:Nat→AV}(ho:H[id]?=some (.con ver k f)) (hk:0<k) (hg:∀j,j<k→Ke H (f j) (g j)):Ke H (.ref id ver 0) (.ptr k g 0):=by
 rintro c v rfl hr h;have hinf:inf c.H id=some ver:=by simp[inf,ho,AO.info]
 cases h with
 |ref _ _ _ b sz hi hgm =>
  rcases hr.con id ver k f ho with⟨h1,h2⟩ | ⟨b',sz',cs,el,fr,h1,h2,h3,h4,h5,h6⟩
  ·omega
  ·rw[h1]at hgm;cases hgm
   have:=Rep.ptr (c:=c) b 0 k 0 g (fun j=>cs.getD j undef) h5 (fun j hj=>Ze h2 (by omega) j hj) (fun j hj=>hg j hj c _ rfl hr (h6 j hj));rwa[Nat.zero_add]at this
 |refOld _ _ _ a hs =>
  exfalso;rcases hs with⟨v',hi,hlt⟩ |hd
  ·rw[hinf]at hi;cases hi;omega
  ·simp[inf,hd,AO.info]at hinf
theorem Qo {m:Nat}{s:AS}(id:Nat){ver n:Nat}{f:Nat→AV}(g:Nat→AV)(ho:s.h[id]?=some (.row ver n f)) (hfg:∀j,j<n→Ke s.h (f j) (g j)):Sub m s { s with h:=s.h.set id (.row ver n g) }:=by
 intro N c a hst;have hH:=hst.heap;rw[←hH]at ho hfg;have hlt:=(List.getElem?_eq_some_iff.1 ho).1;have hat:(c.H.set id (.row ver n g))[id]?=some (.row ver n g):=by simp[hlt]
 have hoth:∀i,i≠id→(c.H.set id (AO.row ver n g))[i]?=c.H[i]?:=fun i hi=>List.getElem?_set_ne (Ne.symm hi)
 let c':Ctx:=⟨c.w,c.S,c.γ,c.H.set id (.row ver n g)⟩
 have hinf:∀i,inf c'.H i=inf c.H i:=fun i=>by
  by_cases hi:i=id
  ·subst hi;simp[inf,c',hat,ho,AO.info]
  ·simp[inf,c',hoth i hi]
 have hdead:∀i:Nat,c'.H[i]?=some AO.dead↔c.H[i]?=some AO.dead:=fun i=>by
  by_cases hi:i=id
  ·subst hi;simp[c',hat,ho]
  ·simp[c',hoth i hi]
 have hmap:∀ (i:Nat) k q,c.H[i]?=some (AO.map k q)↔c'.H[i]?=some (AO.map k q):=fun i k q=>by
  by_cases hi:i=id
  ·subst hi;simp[c',hat,ho]
  ·simp[c',hoth i hi]
 have hrep:∀ {v a},Rep c v a→Rep c' v a:=fun hv=>Sh (c:=c) (c':=c') rfl rfl rfl hinf hdead (fun i k q=>(hmap i k q).1) hv
 have howns:∀b,ZK c' b→ZK c b:=by
  rintro b ⟨i,o,sz,hoi,hown,hg⟩;by_cases hi:i=id
  ·subst hi;exact⟨i,_,sz,ho,rfl,hg⟩
  ·exact⟨i,o,sz,by rw[←hoth i hi];exact hoi,hown,hg⟩
 have hext:Ext c c':=by
  refine⟨?_,fun b h=>h,fun b h=>.inl h,fun b h=>.inr (howns b h),fun _ _ _=>rfl,Nat.le_refl _,rfl,rfl,rfl⟩;intro i o hoi;have key:∀v,inf c.H i=some v→(c'.H[i]?=some .dead∨∃v',Ab.inf c'.H i=some v'∧(v<v'∨(v'=v∧c'.γ i=c.γ i))) :=
   fun v hv=>.inr ⟨v,by rw[hinf];exact hv,.inr ⟨rfl,rfl⟩⟩
  cases o with
  |unborn=>trivial
  |dead=>exact(hdead i).2 hoi
  |row v _ _=>exact key v (by simp[inf,hoi,AO.info])
  |con v _ _=>exact key v (by simp[inf,hoi,AO.info])
  |map k q=>exact .inr ⟨⟨k,q,(hmap i k q).1 hoi⟩,rfl⟩
 refine⟨c',rfl,hext.toB m,hst.size,hst.defers,fun i=>hrep (hst.slots i),by simp[c',hH],?_⟩;refine⟨?_,?_,?_,?_,hst.hrel.bound⟩
 ·intro i v k q hoi
  by_cases hi:i=id
  ·subst hi
   simp only[c']at hoi;rw[hat]at hoi;cases hoi;rcases hst.hrel.row i ver n f ho with h | ⟨b,sz,cs,el,h1,h2,h3,h4,h5,h6⟩
   ·exact .inl h
   ·exact .inr ⟨b,sz,cs,el,h1,h2,h3,h4,h5,fun j hj=>hrep (hfg j hj c _ rfl hst.hrel (h6 j hj))⟩
  ·simp only[c']at hoi
   rw[hoth i hi]at hoi;rcases hst.hrel.row i v k q hoi with h | ⟨b,sz,cs,el,h1,h2,h3,h4,h5,h6⟩
   ·exact .inl h
   ·exact .inr ⟨b,sz,cs,el,h1,h2,h3,h4,h5,fun j hj=>hrep (h6 j hj)⟩
 ·intro i v k q hoi
  by_cases hi:i=id
  ·subst hi;simp only[c']at hoi;rw[hat]at hoi;cases hoi
  ·simp only[c']at hoi
   rw[hoth i hi]at hoi;rcases hst.hrel.con i v k q hoi with h | ⟨b,sz,cs,el,fr,h1,h2,h3,h4,h5,h6⟩
   ·exact .inl h
   ·exact .inr ⟨b,sz,cs,el,fr,h1,h2,h3,h4,h5,fun j hj=>hrep (h6 j hj)⟩
 ·intro i k q hoi
  obtain⟨b,sz,es,cl,h1,h2,h3,h4⟩:=hst.hrel.map i k q ((hmap i k q).2 hoi);exact⟨b,sz,es,cl,h1,h2,h3,h4.ext fun v a hv=>hrep hv⟩
 ·intro i i' o o' b sz sz' hoi hoi' h1 h2 hg hg'
  have key:∀ (i:Nat) o,c'.H[i]?=some o→o.owned=true→∃o2:AO,c.H[i]?=some o2∧o2.owned=true:=by
   intro i o hoi h;by_cases hi:i=id
   ·subst hi;exact⟨_,ho,rfl⟩
   ·exact⟨o,by rw[←hoth i hi];exact hoi,h⟩
  obtain⟨o2,k1,k2⟩:=key i o hoi h1;obtain⟨o3,k3,k4⟩:=key i' o' hoi' h2;exact hst.hrel.inj _ _ _ _ _ _ _ k1 k3 k2 k4 hg hg'
theorem Wm {P:Program}{fn:Func}{str hcs:List Nat}{m:Nat}{r v:AV}{H:List AO}{s:AS}{t u:Nat}(hr:fn.results=#[.cell t u])(h:Qm P false u (s.get t) s.h=some v) (e:v=r) (hH:s.h.take m=H):RetOk (Hj P fn str hcs m r H) s :=
 ⟨v,by simp[Sj,ZN,Hj,hr,Jj,Zq,Bb,h],e,hH⟩
section
variable (P:Program) (fn:Func) (str hcs:List Nat) (b:Nat) (r:AV) (H':List AO)
theorem rM:(Hj P fn str hcs b r H').P=P:=nrfl rfl
theorem mV:(Hj P fn str hcs b r H').fn=fn:=nrfl rfl
theorem fY:(Hj P fn str hcs b r H').str=str:=nrfl rfl
theorem fX:(Hj P fn str hcs b r H').hcs=hcs:=nrfl rfl
end
end
end Go.Ab
namespace Go.Ab
open Go Go.RowKit
noncomputable section
set_option linter.defProp false
def X4:=XK @Ua <| XK @Rm <| XK @Oi <| XK @nL <| XK @i9 <| XK @gV <| XK @gU <| XK @gY <| XK @gX <| XK @YR <| XK @Ub <| XK @tL <| XK @pz <| XK @kM <| XK @kI <| XK @kN <| XK @V6 <| XK @V7 <| XK @dc <| XK @lV <| XK @lU <| XK @cZ <| XK @Tr <| XK @kK <| XK @kJ <| XK @Ts <| XK @cW <| XK @cE <| XK @T5 <| XK @Tq <| XK @Tp <| XK @T6 <| XK @T7 <| XK @To <| XK @cV <| XK @Pw <| XK @cU <| XK @Tm <| XK @cQ <| XK @lN <| XK @r6 <| XK @cO <| XK @MH <| XK @MG <| XK @WN <| XK @WM <| XK @IU <| XK @WP <| XK @Oj <| XK @WO <| XK @Tn <| XK @Oh <| XK @lP <| XK @lS <| XK @lQ <| XK @Tl <| XK @cP <| XK @WL <| XK @lO <| XK @cT <| XK @Tk <| XK @obind_some <| XK @obind_oif <| XK @HU <| XK @Dk <| XK @LK <| XK @HS <| XK @Lh <| XK @Ro <| XK @Nx <| XK @R6 <| XK @RW <| XK @NP <| XK @Te <| XK @Td <| XK @Ra <| XK @Hb <| @RK
def vK:=XK @obind_some <| XK @obind_oif <| XK @HU <| XK @Dk <| XK @LK <| XK @HS <| XK @Lh <| XK @Ro <| XK @Nx <| XK @R6 <| XK @RW <| XK @NP <| XK @Te <| XK @Td <| XK @Ra <| XK @RK <| XK @obind_none <| XK @nW <| XK @U5 <| XK @U4 <| XK @YN <| XK @Rh <| XK @Ri <| XK @rT <| XK @gt <| XK @mX <| XK @nO <| XK @aN <| XK @aM <| XK @nc <| XK @mN <| XK @mM <| XK @YJ <| XK @mR <| XK @fL <| XK @mS <| XK @rD <| XK @rC <| XK @OU <| XK @EK <| XK @gl <| XK @gh <| XK @rN <| XK @VD <| XK @g8 <| XK @fZ <| XK @rM <| XK @mV <| XK @fY <| XK @fX <| XK @dn <| XK @Px <| XK @dD <| XK @dF <| XK @dH <| XK @dp <| XK @dE <| XK @dC <| XK @dz <| XK @dw <| XK @dt <| XK @WX <| XK @WY <| XK @md <| XK @mc <| XK @ei <| XK @eg <| XK @od <| XK @M3 <| XK @Uy <| XK @oe <| XK @W4 <| XK @Ux <| XK @Hc <| XK @Yt <| XK @au <| XK @TX <| XK @FF <| XK @fy <| XK @LY <| XK @Yu <| XK @av <| XK @Nm <| XK @ND <| XK @fx <| XK @iN <| XK @Yo <| XK @TU <| XK @Yp <| XK @Yq <| XK @Yr <| XK @Eh <| XK @BH <| XK @lk <| XK @pq <| XK @aG <| XK @sJ <| XK @ua <| XK @AL <| XK @RM <| XK @OA <| XK @WW <| XK @WU <| XK @WV <| XK @ek <| @Hb
end
end Go.Ab
namespace Go.Ab
open Go Go.RowKit Go.ChangeShapes Go.WideShapes Go.ChangeAt
noncomputable section
variable {H:Type} {enc:TypeId×Value→H} {P:Program}
theorem OH {W w':World}{S S':Nat→Prop}(hx:Ext (.bare W S) (.bare w' S')):Below W.heap.size W w' :=
 ⟨hx.os,hx.tape,hx.output,hx.size,fun _ hk=>hx.same _ hk CR⟩
def Vj (W:World):Nat→Prop:=fun b=>b<W.heap.size
theorem TW {f:FuncId}{as:List AV}(h:PureCall P f as (.bool true)) {W:World} {vs:Array Value} (hv:RepL (.bare W (Vj W)) vs as):Calls P f vs W fun e W'=>e=.returned (.bool true)∧Below W.heap.size W W':=by
 refine(h.2 W (Vj W) vs (fun _ h=>h) hv).mono ?_;rintro e w' ⟨v,S',rfl,hr,_,hx⟩;cases hr;exact⟨rfl,OH hx⟩
theorem YZ {n:Int}(h:(Lit.int .i64 n).wf=true):-9223372036854775808≤n∧n<9223372036854775808:=by
 have:IntKind.i64.min≤n∧n≤IntKind.i64.max:=by simpa [Lit.wf]using h
 have e1:IntKind.i64.min = -9223372036854775808:=by decide
 have e2:IntKind.i64.max=9223372036854775807:=by decide
 omega
theorem FK {t e:TypeId}{r:Reach}{b0:Nat}{base:Nat}{sp:Nat→Bool}{held:Bool}{W:World}{v:Value}{d:DataW H}{ps:List MemPlace}(ht:P.underlying t=some (.slice e)) (he:P.underlying e=some (.int .i64)) (hc:P.cellsOf e=1)
  (hval:Value.okWide P W r b0 t v) (h:DataW.Trod enc P W base sp held t v d ps) :
  ∃l:List Int,(∀x∈l,-9223372036854775808≤x∧x<9223372036854775808)∧l.length≤maxLen∧Rep (.bare W (Vj W)) v (.sl l.length l.length (QL I 0 l) false):=by
 obtain⟨a0,len,cap,rfl⟩:=okWide_slice ht hval;obtain⟨fuel,hf⟩:=h;rcases open_ints ht he hc hf with⟨hcs,hx⟩ | ⟨a,len',cap',zs,hcs,_,hl,hm,hz,hx,hcell,hwz⟩
 ·simp[Value.cells]at hcs
  obtain⟨rfl,rfl,rfl⟩:=hcs;exact⟨[],by simp,by simp,.slz _ _ _ _ (by simp)⟩
 ·simp[Value.cells]at hcs
  obtain⟨rfl,rfl,rfl⟩:=hcs;have hlen:len≤zs.length:=by rw[hz];split <;> omega
  refine⟨zs.take len,fun x hx=>YZ (hwz x (List.mem_of_mem_take hx)),by rw[List.length_take];exact Nat.le_trans (Nat.min_le_left _ _) (Nat.le_trans hl hm),?_⟩;rw[List.length_take,Nat.min_eq_left hlen];rcases Nat.eq_zero_or_pos len with h0 |h0
  ·subst h0;exact .slz _ _ _ _ (by simp)
  ·have c0:=hcell 0 (by omega)
   have hsp:a.spot=none:=by
    unfold World.cell? at c0
    split at c0
    ·cases hs:a.spot with
     |none=>rfl
     |some s=>simp[Addr.add,hs]at c0
    ·cases c0
   obtain⟨ab,ao,as⟩:=a;simp only at hsp;subst hsp;have hb:ab<W.heap.size:=by
    unfold World.cell? at c0
    split at c0
    ·rename_i h;exact(Array.getElem?_eq_some_iff.1 h).1
    ·cases c0
   refine .sl ab ao len len cap _ false (fun j=>.int .i64 (zs.getD j 0)) hb (fun j hj=>?_) (fun j hj=>?_) hl (by simp)
   ·have:=hcell j (by omega)
    rwa[Addr.add_lit]at this
   ·have:(zs.take len).getD j 0=zs.getD j 0:=by simp[List.getD_eq_getElem?_getD,hj]
    rw[AL,this];exact .int _ _
theorem Fu (hl:laidOutB P=true){W W':World}{sp':Nat→Bool}(hb:Below W.heap.size W W'):∀ {ts:List TypeId} {vs:List Value} {ds:List (DataW H)} {p:List MemPlace},(∀t∈ts,P.readableRec t=true∧t<P.types.size) →
  DataW.TrodAll enc P W 0 (fun _=>true) true ts vs ds p→(∀x∈p,x.block<W.heap.size)→(∀x∈p,sp' x.block=true)→DataW.TrodAll enc P W' 0 sp' true ts vs ds p
 | [],_,_,_,_,h,_,_=>by
  obtain⟨rfl,rfl,rfl⟩:=trodAll_nil h;exact trodAll_mk0
 |t :: ts,_,_,_,ht,h,hlt,hsp=>by
  obtain⟨v,vs1,d,ds1,a,b,rfl,rfl,rfl,h1,h2⟩:=trodAll_cons h;obtain⟨r1,r2⟩:=ht t (by simp);exact trodAll_cons_mk (WideElems.Trod_stays hl r1 r2 h1 (fun x hx=>hb.same (hlt x (by simp[hx]))) (fun x hx=>hsp x (by simp[hx])))
   (Fu hl hb (fun t' ht'=>ht t' (by simp[ht'])) h2 (fun x hx=>hlt x (by simp[hx])) (fun x hx=>hsp x (by simp[hx])))
theorem aJ {f:Func}{s:ChangeSpec}{apart fresh handsOn again:Bool}{W W':World}{args:Array Value}{ds:List (DataW H)} {p:List MemPlace} {tb:TypeId} (hl:laidOutB P=true)
  (hW:DataW.Whole enc P f.params.toList s.vars apart W args.toList ds [] p) (hA:DataW.TrodAll enc P W 0 (fun _=>true) true f.params.toList args.toList ds p) (hv:s.vars=[])
  (hts:∀t∈f.params.toList,P.readableRec t=true∧t<P.types.size) (hres:f.resultTypes=#[tb]) (hb:P.underlying tb=some .bool)
  (hfn:s.fn H (ds ++ [])={ results:=[.lit (.bool true)],args:=ds }) (hbel:Below W.heap.size W W'):s.post enc P f apart fresh handsOn again W args (.bool true) W':=by
 have hlt:∀x∈p,x.block<W.heap.size:=fun x hx=>by simpa using hW.lt x hx
 have hargs:∀sp:Nat→Bool,(∀q∈p,sp q.block=true)→DataW.TrodAll enc P W' 0 sp true f.params.toList args.toList (s.fn H (ds ++ [])).args p:=fun sp hsp=>by
  rw[hfn];exact Fu hl hbel hts hA hlt hsp
 have hvars:∀sp:Nat→Bool,DataW.TrodVars enc P W' sp s.vars (s.fn H (ds ++ [])).vars []:=fun sp=>by
  rw[hfn,hv];rfl
 have hr:∀ (b:Nat) (sp:Nat→Bool) (hd:Bool),DataW.TrodAll enc P W' b sp hd f.resultTypes.toList ((Value.bool true).resultList f.resultTypes.size) (s.fn H (ds ++ [])).results []:=fun b sp hd=>by
  rw[hfn,hres];exact trodAll_cons_mk (shut_bool hb _) trodAll_mk0
 have hold:∀q∈p,(fun b=>decide (b<W.heap.size)) q.block=true:=fun q hq=>by simpa using hlt q hq
 refine⟨ds,[],p,[],p,[],hW,hr _ _ _,hargs _ hold,hvars _,World.keptBut_mono (fun q hq=>⟨hq,.inr (.inl hq)⟩) (hbel.frame _),fun _=>?_⟩;obtain⟨_,_,_,_,_,hz,hn⟩:=hW;refine⟨ok_one (by rw[hres]) rfl (okWide_bool_mk hb _),_,_,([] ++ p) ++ [],⟨[] ++ p,[],trodAll_append (hargs _ (fun _ _=>rfl)) (hr _ _ _),hvars _,rfl,?_,?_⟩,?_⟩
 ·intro b off hp
  have hp':MemPlace.cell b off∈p:=by simpa using hp
  rw[hbel.frozen (p:=⟨b,off,none⟩) (hlt _ hp')];exact hz b off hp'
 ·intro ha
  simpa using hn ha
 ·intro q hq _
  simpa using hq
end
end Go.Ab
namespace Go.Ab
open Go Go.RowKit
noncomputable section
theorem IK {m:Nat}{s:AS}(f:Nat→AV):Sub m s { s with h:=s.h ++ [AO.row 0 0 f] }:=by
 intro N c a hst;have hH:=hst.heap;have hset:(c.H ++ [AO.row 0 0 f])[c.H.length]?=some (.row 0 0 f):=by simp
 have hoth:∀i,i≠c.H.length→(c.H ++ [AO.row 0 0 f])[i]?=c.H[i]?:=fun i hi=>by
  have:=ZZ (nid:=none) (h:=c.H) (o:=.row 0 0 f) i (by simpa [Qz]using hi)
  simpa [Kb]using this
 obtain⟨g1,g2⟩:=GW hst.hrel (id:=c.H.length) (ver:=0) (w:=c.w) hset hoth rfl (.inl (by simp));exact⟨⟨c.w,c.S,Jy c.γ c.H.length none,c.H ++ [.row 0 0 f]⟩,rfl,g2.toB m,hst.size,hst.defers,fun j=>g2.rep hst.hrel (hst.slots j),by simp[hH],g1⟩
theorem BC {H:List AO}{id ver n M es:Nat}{f q:Nat→AV}(ho:H[id]?=some (.row ver n f)):Ke H (.sl 0 M q true) (.osl id ver es 0 0):=by
 intro c v hH _ hv;have hinf:inf c.H id=some ver:=by simp[inf,hH,ho,AO.info]
 cases hv with
 |sl _ _ _ _ _ _ _ _ _ _ _ _ ht=>have:=ht rfl;subst this;exact .oslz _ _ _ _ _ hinf
 |slz _ _ _ _ ht=>have:=ht rfl;subst this;exact .oslz _ _ _ _ _ hinf
theorem DI {m:Nat}{s:AS}(i:Nat)(b:AV)(hi:i<s.n0)(hw:Ke s.h (s.sl.getD i .any) b):Sub m s { s with sl:=s.sl.set i b }:=by
 intro N c a hst;refine⟨c,rfl,(Ext.refl c).toB m,hst.size,hst.defers,fun j=>?_,hst.heap,hst.hrel⟩;have:=hst.slots j;unfold AS.get at this ⊢;by_cases hj:j<s.n0
 ·simp only[hj,if_true]at this ⊢
  by_cases he:j=i
  ·subst he
   by_cases hl:j<s.sl.length
   ·rw[List.getD_eq_getElem?_getD,List.getElem?_set_self hl];exact hw _ _ hst.heap hst.hrel this
   ·rw[List.set_eq_of_length_le (by omega)];exact this
  ·rw[List.getD_eq_getElem?_getD,List.getElem?_set_ne (Ne.symm he),←List.getD_eq_getElem?_getD];exact this
 ·simp only[hj,if_false]at this ⊢;exact this
theorem Zc {H:List AO}{id ver es n k M:Nat}{f g:Nat→AV}(ho:H[id]?=some (.con ver k f)) (hle:M≤k) (hM:n=0→M=0) (hg:∀j,j<M→Ke H (f j) (g j)):Ke H (.osl id ver es 0 n) (.sl n M g false):=by
 rintro c v rfl hr h;have hinf:inf c.H id=some ver:=by simp[inf,ho,AO.info]
 have hns:¬stale c.H id ver:=by
  rintro(⟨v',hi,hlt⟩ |hd)
  ·rw[hinf]at hi;cases hi;omega
  ·simp[inf,hd,AO.info]at hinf
 have hz:n=0→∀b cap,Rep c (.slice b 0 cap) (.sl n M g false):=by
  rintro hn b cap;rw[hn,hM hn];exact .slz _ _ _ _ (by simp)
 cases h with
 |osl _ _ _ _ _ cap b sz hi hgm hn hcap =>
  rcases hr.con id ver k f ho with⟨h1,h2⟩ | ⟨b',sz',cs,el,fr,h1,h2,h3,h4,h5,h6⟩
  ·rw[h1]at hgm;cases hgm
  ·rw[h1]at hgm;cases hgm
   refine .sl b 0 n M cap g false (fun j=>cs.getD j undef) h5 (fun j hj=>?_) (fun j hj=>hg j hj c _ rfl hr (h6 j (by omega))) hn (by simp);rw[cell_of_row c.w b _ cs el fr h2];have hlt:j<cs.size:=by omega
   simp[hlt,Array.getD]
 |oslz _ _ _ _ b hi=>exact hz rfl b 0
 |oslOld _ _ _ _ _ b cap hn hs=>exact absurd hs hns
 |oslzOld _ _ _ _ b hs=>exact absurd hs hns
theorem MB {α:Type}(l:List α)(d:α)(j:Nat)(h:j<l.length):l.take (j+1)=l.take j ++ [l.getD j d]:=by
 rw[List.take_succ_eq_append_getElem h,List.getD_eq_getElem?_getD,List.getElem?_eq_getElem h];rfl
theorem Gh {α:Type}{l:List α}{d:α}{j:Nat}(h:j<l.length):l.getD j d∈l:=by
 rw[List.getD_eq_getElem?_getD,List.getElem?_eq_getElem h];exact List.getElem_mem _
theorem wj (j:Nat)(h:j<4611686018427387904):IntKind.i64.wrap ((j:Int)+1)=((j+1:Nat):Int):=by rw[IntKind.wrap_i64];omega
theorem kU {n n' m m':Nat}{f f':Nat→AV}{t:Bool}(hn:n=n')(hm:m'≤m)(hf:∀j,j<m'→f j=f' j):Weak (.sl n m f t) (.sl n' m' f' false):=by subst hn;exact pB hm hf
theorem BF {α:Type}(l:List α)(d:α)(i j:Nat)(h:i<j):(l.take j).getD i d=l.getD i d:=by
 simp[List.getD_eq_getElem?_getD,List.getElem?_take,h]
theorem Xo {P:Program}{fn:Func}{str hcs:List Nat}{r v:AV}{s:AS}{t:Nat}(hr:fn.results=#[.tmp t])(h:s.get t=v)(hs:Settled r)(e:v=r):RetOk (Ju P fn str hcs r) s :=
 C4 hr (Q1 hs (h.trans e))
theorem jC {P:Program}{fn:Func}{str hcs:List Nat}{a b x y:AV}{s:AS}{t u:Nat}(hr:fn.results=#[.tmp t,.tmp u])(h1:s.get t=x)(h2:s.get u=y)(s1:Settled a)(s2:Settled b)(e1:x=a)(e2:y=b) :
  RetOk (Ju P fn str hcs (.tup [a,b])) s:=oD hr (CX ⟨Q1 s1 (h1.trans e1),Q1 s2 (h2.trans e2),trivial⟩)
theorem Ll {h h':List AO}(h1:∀ o∈h,∀ v n f,o≠.con v n f)(h2:∀o∈h',∀v n f,o≠.con v n f):JP h h':=by
 intro id v n f;constructor
 ·intro h;exact absurd rfl (h1 _ (List.mem_of_getElem? h) v n f)
 ·intro h;exact absurd rfl (h2 _ (List.mem_of_getElem? h) v n f)
theorem JK {n n' m m':Nat}{f f':Nat→AV}{t:Bool}(hn:n=n')(hm:m'≤m)(hf:∀j,j<m'→Weak (f j) (f' j)):Weak (.sl n m f t) (.sl n' m' f' false):=fun c v h=>by
 subst hn;cases h with
 |sl b base _ _ cap _ _ us hS hc hr hn ht=>exact .sl b base n m' cap f' false us hS (fun j hj=>hc j (by omega)) (fun j hj=>hf j hj c _ (hr j (by omega))) hn (by simp)
 |slz a cap _ _ ht =>
  obtain rfl:m'=0:=by omega
  exact .slz _ _ _ _ (by simp)
theorem XF {H:List AO}{a b:AV}(h:Settled b)(hw:Weak a b):Zs H a b:=fun c v hH hr hv=>h.sees H c v hH hr (hw c v hv)
theorem GZ (l:List Int){n m:Nat}{f:Nat→AV}{t:Bool}(h1:n=l.length)(h2:l.length≤m)(hf:∀j,j<l.length→f j=I (l.getD j 0)):Weak (.sl n m f t) (X8 l) :=
 kU h1 h2 hf
theorem UT {l:List Int}{H:List AO}{a:AV}{id ver n m:Nat}{g:Nat→AV}(ha:a=.osl id ver 1 0 m)(ho:H[id]?=some (.row ver n g)) (hm:m=l.length) (hn:l.length≤n) (hg:∀j,j<l.length→g j=I (l.getD j 0)):Zs H a (X8 l):=by
 subst ha;subst hm;exact Z2 (.inl ho) (by omega) (by omega) fun j hj=>by rw[Nat.zero_add,hg j hj];exact(Xb _).sees H
theorem uq (m:Nat)(n:Int):Jq m (I n):=X6 (Xb n)
theorem kT (L:List Int)(t:Bool):Weak (.sl L.length L.length (Xf (L.map I)) t) (X8 L):=JK rfl (Nat.le_refl _) fun j hj=>by
 have:Xf (L.map I) j=I (L.getD j 0):=by
  unfold Xf;simp[List.getD_eq_getElem?_getD,hj]
 rw[this];exact Weak.rfl' _
theorem ST {m:Nat}{s:AS}(i:Nat)(b:AV)(hi:i<s.n0)(hw:Weak (s.sl.getD i .any) b):Sub m s { s with sl:=s.sl.set i b }:=by
 intro N c a hst;refine⟨c,rfl,(Ext.refl c).toB m,hst.size,hst.defers,fun j=>?_,hst.heap,hst.hrel⟩;have:=hst.slots j;unfold AS.get at this ⊢;by_cases hj:j<s.n0
 ·simp only[hj,if_true]at this ⊢
  by_cases he:j=i
  ·subst he
   by_cases hl:j<s.sl.length
   ·rw[List.getD_eq_getElem?_getD,List.getElem?_set_self hl];exact hw _ _ this
   ·rw[List.set_eq_of_length_le (by omega)];exact this
  ·rw[List.getD_eq_getElem?_getD,List.getElem?_set_ne (Ne.symm he),←List.getD_eq_getElem?_getD];exact this
 ·simp only[hj,if_false]at this ⊢;exact this
theorem kW {l m:List AV}(h:WeakL l m):Weak (.tup l) (.tup m):=fun c v hv=>by
 cases hv with
 |tup vs _ hs hr =>
  obtain⟨e,h'⟩:=h.spec (c:=c);exact .tup vs m (by omega) fun j hj=>h' j (by omega) _ (hr j (by omega))
def BS (n:Int):Prop:=-9223372036854775808≤n∧n<9223372036854775808
def ZS (n m:Int):Int:=(if n<0 then -(n+1)else n).tmod m
theorem Cv (n m:Int)(h:0<m):0≤ZS n m∧ZS n m<m:=by
 unfold ZS;have:0≤(if n<0 then -(n+1)else n):=by split <;> omega
 generalize (if n<0 then -(n+1)else n)=x at this;rw[Int.tmod_eq_emod_of_nonneg this];exact⟨Int.emod_nonneg _ (by omega),Int.emod_lt_of_pos _ h⟩
def atF (l:List Int)(i m:Int):Int:=if i<0∨l.length≤i then 0 else ZS (l.getD i.toNat 0) m
theorem Xv (l:List Int)(i m:Int)(h:0<m):0≤atF l i m∧atF l i m<m:=by
 unfold atF
 split
 ·omega
 ·exact Cv _ _ h
def DL (l:List Int):Prop:=∀x∈l,BS x
theorem dZ {l:List Int}(h:DL l)(i:Nat):BS (l.getD i 0):=by
 rw[List.getD_eq_getElem?_getD];cases hx:l[i]? with
 |none=>exact⟨by decide,by decide⟩
 |some x=>exact h x (List.mem_of_getElem? hx)
theorem Ko (g:FuncId):Settled (.fn g []):=Jg (by simp)
theorem GH {P:Program}{fn:Func}{str hcs:List Nat}{r v:AV}{s:AS}{t u:Nat}(hr:fn.results=#[.cell t u])(h:Qm P false u (s.get t) s.h=some v) (hs:Zs s.h v r):RetOk (Ju P fn str hcs r) s :=
 ⟨v,by simp[ZN,OU,EK,hr,Jj,Zq,Bb,h],hs⟩
end
end Go.Ab
namespace Go.Ab
open Go Go.RowKit
noncomputable section
set_option linter.defProp false
section
variable {α β:Type}
theorem lD (a:α)(l:List α)(n:Nat)(d:α):(a :: l).getD (n+1) d=l.getD n d:=nrfl rfl
theorem lE (a:α)(l:List α)(d:α):(a :: l).getD 0 d=a:=nrfl rfl
theorem qY (a b:α)(l:List α)(n:Nat):(a :: l).set (n+1) b=a :: l.set n b:=nrfl rfl
theorem qZ (a b:α)(l:List α):(a :: l).set 0 b=b :: l:=nrfl rfl
theorem qT (f:α→β)(a:α)(l:List α):(a :: l).map f=f a :: l.map f:=nrfl rfl
theorem qU (f:α→β):([]:List α).map f=[]:=nrfl rfl
theorem qI (f:α→Bool)(a:α)(l:List α):(a :: l).all f=(f a && l.all f):=nrfl (List.all_cons ..)
theorem qJ (f:α→Bool):([]:List α).all f=true:=nrfl (List.all_nil ..)
theorem qR (a:α)(l:List α):(a :: l).length=l.length+1:=nrfl rfl
theorem qS:([]:List α).length=0:=nrfl rfl
theorem qK (a:α)(l m:List α):(a :: l) ++ m=a :: (l ++ m):=nrfl rfl
theorem qM (m:List α):[] ++ m=m:=nrfl rfl
theorem qL (l:List α):l ++ []=l:=nrfl (List.append_nil l)
theorem qP (a:α)(l:List α)(n:Nat):(a :: l)[n+1]?=l[n]?:=nrfl rfl
theorem qQ (a:α)(l:List α):(a :: l)[0]?=some a:=nrfl rfl
theorem qW (a:α)(n:Nat):List.replicate (n+1) a=a :: List.replicate n a:=nrfl rfl
theorem qX (a:α):List.replicate 0 a=[]:=nrfl rfl
theorem qN (a b:Nat)(l:List Nat):(a :: l).contains b=(b == a || l.contains b):=nrfl (List.contains_cons ..)
theorem qO (b:Nat):([]:List Nat).contains b=false:=nrfl rfl
theorem lI (f:α→β)(a:α):(some a).map f=some (f a):=nrfl rfl
theorem lH (f:α→β):(none:Option α).map f=none:=nrfl rfl
theorem qV (a:α):(some a).isSome=true:=nrfl rfl
end
theorem tZ:(0:Int).toNat=0:=nrfl rfl
theorem tY:(1:Int).toNat=1:=nrfl rfl
theorem tX (n:Nat):(n:Int).toNat=n:=nrfl rfl
theorem lJ {α:Type}(a:α)(l:List α)(n:Nat):(a :: l).take (n+1)=a :: l.take n:=nrfl rfl
theorem sr (i:Nat)(v:AV)(l:List (Nat×AV)) (j:Nat):XA ((i,v) :: l) j=if j=i then v else XA l j:=nrfl rfl
theorem oC (i:Nat)(v:AV)(l:List (Nat×AV)) (d:Nat) (u:AV):Mn ((i,v) :: l) d u=if d=i then(i,u) :: l else(i,v) :: Mn l d u:=nrfl rfl
theorem mY (hid:List Nat)(i:Nat)(v:AV)(l:List (Nat×AV)):HP hid ((i,v) :: l)=if hid.contains i=true then(i,v) :: HP hid l else HP hid l:=nrfl rfl
theorem mZ (hid:List Nat):HP hid []=[]:=nrfl rfl
theorem fI (hc:Bool)(o:Oper)(os:List Oper):Fz hc (o :: os)=(if Qx hc o.op=2 then 1 else 0)+Fz hc os:=nrfl rfl
theorem fJ (hc:Bool):Fz hc []=0:=nrfl rfl
section
variable (hc:Bool)
theorem fE (x:Operand):Qx hc (.move x)=0:=nrfl rfl
theorem U1 (x:Operand):Qx hc (.assign x)=0:=nrfl rfl
theorem fF (x y z:Operand):Qx hc (.pick x y z)=0:=nrfl rfl
theorem OM (x:Operand):Qx hc (.nilCheck x)=0:=nrfl rfl
theorem mO (o:BinOp)(t:TypeId)(x y:Operand)(u:TypeId):Qx hc (.binOp o t x y u)=0:=nrfl rfl
theorem rB (o:UnOp)(t:TypeId)(x:Operand):Qx hc (.unOp o t x)=0:=nrfl rfl
theorem fA (t u:TypeId)(x:Operand):Qx hc (.convert t u x)=0:=nrfl rfl
theorem MV (t:TypeId)(x:Operand)(j:Nat):Qx hc (.fieldAddr t x j)=0:=nrfl rfl
theorem MW (t:TypeId)(x y:Operand):Qx hc (.indexAddr t x y)=0:=nrfl rfl
theorem R3 (x:Operand)(j:Nat):Qx hc (.extract x j)=0:=nrfl rfl
theorem YE (t:TypeId)(x:Operand)(a b c:Option Operand):Qx hc (.slice t x a b c)=0:=nrfl rfl
theorem OL (f:_root_.Go.Fn)(a b:Array Operand):Qx hc (.makeFunc f a b)=0:=nrfl rfl
theorem Yz (t:TypeId)(ps:Array (Nat×Operand)):Qx hc (.build t ps)=0:=nrfl rfl
theorem Lj (t:TypeId)(n:Nat)(ps:Array (Nat×Operand)):Qx hc (.buildSlice t n ps)=0:=nrfl rfl
theorem fD (t:TypeId)(x:Operand):Qx hc (.load t x)=1:=nrfl rfl
theorem Yy (t:TypeId):Qx hc (.alloc t)=2:=nrfl rfl
theorem YF (t:TypeId)(x y:Operand):Qx hc (.store t x y)=3:=nrfl rfl
theorem mP (a:Array Operand)(ts:Array TypeId):Qx hc (.call { callee:=.builtin .len,args:=a,argTypes:=ts })=0:=nrfl rfl
theorem U0 (a:Array Operand)(ts:Array TypeId):Qx hc (.call { callee:=.builtin .append,args:=a,argTypes:=ts })=3:=nrfl rfl
theorem YD (f:Operand)(a:Array Operand)(ts:Array TypeId):Qx true (.call { callee:=.value f,args:=a,argTypes:=ts })=3:=nrfl rfl
theorem YB (f:Operand)(a:Array Operand)(ts:Array TypeId):Qx false (.call { callee:=.value f,args:=a,argTypes:=ts })=1:=nrfl rfl
end
section
variable (P:Program) (st:Bool) (t:TypeId) (h:List AO)
theorem jx (m:Nat)(f:Nat→AV)(off:Nat):rd none m f off=Q4 (off<m) (some (f off)):=nrfl rfl
theorem aO (n m:Nat)(f:Nat→AV)(off:Nat):rd (some n) m f off=Q4 (off+n≤m) (some (.agg (Qw f off 0 n))):=nrfl rfl
theorem R0 (f:Nat→AV)(off j:Nat):Qw f off j 0=[]:=nrfl rfl
theorem PZ (f:Nat→AV)(off j n:Nat):Qw f off j (n+1)=f (off+j) :: Qw f off (j+1) n:=nrfl rfl
theorem tG (f:Nat→AV)(i:Nat):FQ f i []=f:=nrfl rfl
theorem tF (f:Nat→AV)(i:Nat)(v:AV)(l:List AV):FQ f i (v :: l)=FQ (DS f i v) (i+1) l:=nrfl rfl
def TB (k:Option (Option Nat)) (st:Bool) (a:AV) (h:List AO):Option AV :=
 match k with
 |none=>none
 |some k =>
  match a with
  | .ptr m f off=>rd k m f off
  | .ref id ver off =>
   match h[id]? with
   |some (.row v m f)=>Q4 (st=false∧v=ver) (rd k m f off)
   |some (.con v m f)=>Q4 (v=ver) (rd k m f off)
   |_=>none
  |_=>none
theorem AR (a:AV):Qm P st t a h=TB (Cc P t) st a h:=nrfl rfl
def TE (k:Option Nat)(st:Bool)(ver off:Nat)(o:Option AO):Option AV :=
 match o with
 |some (.row v m f)=>Q4 (st=false∧v=ver) (rd k m f off)
 |some (.con v m f)=>Q4 (v=ver) (rd k m f off)
 |_=>none
variable (k:Option Nat)
theorem TD (m:Nat)(f:Nat→AV)(off:Nat):TB (some k) st (.ptr m f off) h=rd k m f off:=nrfl rfl
theorem JZ (id ver off:Nat):TB (some k) st (.ref id ver off) h=TE k st ver off h[id]?:=nrfl rfl
theorem K0 (ver off v m:Nat)(f:Nat→AV):TE k st ver off (some (.row v m f))=Q4 (st=false∧v=ver) (rd k m f off):=nrfl rfl
theorem TF (ver off v m:Nat)(f:Nat→AV):TE k st ver off (some (.con v m f))=Q4 (v=ver) (rd k m f off):=nrfl rfl
theorem SN (v:AV):Z8 true v=v.cells.map AV.boxed:=nrfl rfl
theorem SM (v:AV):Z8 false v=v.cells.map AV.loose:=nrfl rfl
def Vq (st:Bool)(ts:Option Nat)(id ver off:Nat)(v:AV)(h:List AO)(o:Option AO):Option (List AO) :=
 match o with
 |some (.row v' m f)=>Q4 (v'=ver∧ts=some v.cells.length∧v.cells≠[]∧off+v.cells.length≤m∧v.cells.all AV.one=true) (some (h.set id (.row v' m (FQ f off (Z8 st v)))))
 |_=>none
theorem Lb (id ver off:Nat)(v:AV):KU P st t (.ref id ver off) v h=Vq st (KI P t) id ver off v h h[id]?:=nrfl rfl
theorem HN (ts:Option Nat)(id ver off:Nat)(v:AV)(v' m:Nat)(f:Nat→AV):Vq st ts id ver off v h (some (.row v' m f)) =
  Q4 (v'=ver∧ts=some v.cells.length∧v.cells≠[]∧off+v.cells.length≤m∧v.cells.all AV.one=true) (some (h.set id (.row v' m (FQ f off (Z8 st v))))):=nrfl rfl
def FV (e:Option (TypeId×Nat×Nat)) (P:Program) (t:TypeId) (x:AV) (i:Int):Option AV :=
 match e with
 |some (_,s,_) =>
  match x with
  | .sl n m f _=>Q4 (0≤i∧i<n) (some (.ptr m f (i.toNat*s)))
  | .osl id ver _ off n=>Q4 (0≤i∧i<n) (some (.ref id ver (off+i.toNat*s)))
  |_=>none
 |none =>
  match cG P t with
  |some (n,s,_) =>
   match x with
   | .ptr m f off=>Q4 (0≤i∧i<n) (some (.ptr m f (off+i.toNat*s)))
   | .ref id ver off=>Q4 (0≤i∧i<n) (some (.ref id ver (off+i.toNat*s)))
   |_=>none
  |none=>none
theorem PI (x:AV)(k:IntKind)(i:Int):D4 P t x (.int k i)=FV (At P t) P t x i:=nrfl (by
 unfold D4 FV;first |rfl | (cases At P t <;> first |rfl | (cases x <;> rfl) | (cases cG P t <;> first |rfl | (cases x <;> rfl))))
def Ow (a:Option (Nat×Nat×Option Nat)) (x:AV) (i:Int):Option AV :=
 match a with
 |some (n,s,_) =>
  match x with
  | .ptr m f off=>Q4 (0≤i∧i<n) (some (.ptr m f (off+i.toNat*s)))
  | .ref id ver off=>Q4 (0≤i∧i<n) (some (.ref id ver (off+i.toNat*s)))
  |_=>none
 |none=>none
theorem Tz (e s b n m:Nat)(f:Nat→AV)(q:Bool)(i:Int):FV (some (e,s,b)) P t (.sl n m f q) i=Q4 (0≤i∧i<n) (some (.ptr m f (i.toNat*s))):=nrfl rfl
theorem HJ (e s b id ver es off n:Nat)(i:Int):FV (some (e,s,b)) P t (.osl id ver es off n) i=Q4 (0≤i∧i<n) (some (.ref id ver (off+i.toNat*s))):=nrfl rfl
theorem Ox (x:AV)(i:Int):FV none P t x i=Ow (cG P t) x i:=nrfl rfl
theorem PG (n s:Nat)(q:Option Nat)(m:Nat)(f:Nat→AV)(off:Nat)(i:Int):Ow (some (n,s,q)) (.ptr m f off) i=Q4 (0≤i∧i<n) (some (.ptr m f (off+i.toNat*s))):=nrfl rfl
theorem PH (n s:Nat)(q:Option Nat)(id ver off:Nat)(i:Int):Ow (some (n,s,q)) (.ref id ver off) i=Q4 (0≤i∧i<n) (some (.ref id ver (off+i.toNat*s))):=nrfl rfl
def IY (k:Option (Nat×Nat×Option Nat)) (x:AV):Option AV :=
 match k with
 |some (o,_,_) =>
  match x with
  | .ptr m f off=>some (.ptr m f (off+o))
  | .ref id ver off=>some (.ref id ver (off+o))
  |_=>none
 |none=>none
theorem H8 (x:AV)(i:Nat):Ce P t x i=IY (BR P t i) x:=nrfl rfl
theorem Ou (o s:Nat)(q:Option Nat)(m:Nat)(f:Nat→AV)(off:Nat):IY (some (o,s,q)) (.ptr m f off)=some (.ptr m f (off+o)):=nrfl rfl
theorem D3 (o s:Nat)(q:Option Nat)(id ver off:Nat):IY (some (o,s,q)) (.ref id ver off)=some (.ref id ver (off+o)):=nrfl rfl
def Vi (k:Option (Nat×Nat×Option Nat)) (x:AV):Option AV :=
 match k with
 |some (o,_,k)=>match x with | .agg l=>apart k l o |_=>none
 |none=>none
theorem dV (x:AV)(i:Nat):H7 P t x i=Vi (BR P t i) x:=nrfl rfl
theorem PF (o s:Nat)(q:Option Nat)(l:List AV):Vi (some (o,s,q)) (.agg l)=apart q l o:=nrfl rfl
theorem ma (l:List AV)(off:Nat):apart none l off=Q4 (off<l.length) (some (l.getD off .any)):=nrfl rfl
theorem iu (d:Int):Jc none d=some d:=nrfl rfl
theorem iv (k:IntKind)(n d:Int):Jc (some (.int k n)) d=some n:=nrfl rfl
def Ir (e:Option (TypeId×Nat×Nat)) (x:AV) (lo hi mx:Option AV):Option AV :=
 match e,mx with
 |some (_,s,_),none =>
  match x with
  | .sl n m f t =>
   match Jc lo 0,Jc hi n with
   |some l,some h=>Q4 (0≤l∧l≤h∧h≤n) (some (.sl (h-l).toNat (min ((h-l).toNat*s) (m-l.toNat*s)) (fun j=>f (l.toNat*s+j)) (t && decide (h=n))))
   |_,_=>none
  | .osl id ver es off n =>
   match Jc lo 0,Jc hi n with
   |some l,some h=>Q4 (0≤l∧l≤h∧h≤n∧es=s) (some (.osl id ver es (off+l.toNat*s) (h-l).toNat))
   |_,_=>none
  |_=>none
 |some (_,s,_),some mx =>
  match x with
  | .sl n m f _ =>
   match Jc lo 0,Jc hi n,mx with
   |some l,some h,.int _ q=>Q4 (0≤l∧l≤h∧h≤n∧q=h) (some (.sl (h-l).toNat (min ((h-l).toNat*s) (m-l.toNat*s)) (fun j=>f (l.toNat*s+j)) true))
   |_,_,_=>none
  |_=>none
 |_,_=>none
theorem eG (x:AV)(lo hi mx:Option AV):DZ P t x lo hi mx=Ir (At P t) x lo hi mx:=nrfl rfl
def Vn (s n m:Nat)(f:Nat→AV)(t:Bool)(a b:Option Int):Option AV :=
 match a,b with
 |some l,some h=>Q4 (0≤l∧l≤h∧h≤n) (some (.sl (h-l).toNat (min ((h-l).toNat*s) (m-l.toNat*s)) (fun j=>f (l.toNat*s+j)) (t && decide (h=n))))
 |_,_=>none
def Vm (s id ver es off n:Nat)(a b:Option Int):Option AV :=
 match a,b with
 |some l,some h=>Q4 (0≤l∧l≤h∧h≤n∧es=s) (some (.osl id ver es (off+l.toNat*s) (h-l).toNat))
 |_,_=>none
def Vo (s n m:Nat)(f:Nat→AV)(a b:Option Int)(mx:AV):Option AV :=
 match a,b,mx with
 |some l,some h,.int _ q=>Q4 (0≤l∧l≤h∧h≤n∧q=h) (some (.sl (h-l).toNat (min ((h-l).toNat*s) (m-l.toNat*s)) (fun j=>f (l.toNat*s+j)) true))
 |_,_,_=>none
theorem TL (e s b n m:Nat)(f:Nat→AV)(q:Bool)(lo hi:Option AV):Ir (some (e,s,b)) (.sl n m f q) lo hi none=Vn s n m f q (Jc lo 0) (Jc hi n):=nrfl rfl
theorem PM (e s b id ver es off n:Nat)(lo hi:Option AV):Ir (some (e,s,b)) (.osl id ver es off n) lo hi none=Vm s id ver es off n (Jc lo 0) (Jc hi n):=nrfl rfl
theorem PN (e s b n m:Nat)(f:Nat→AV)(q:Bool)(lo hi:Option AV)(mx:AV):Ir (some (e,s,b)) (.sl n m f q) lo hi (some mx)=Vo s n m f (Jc lo 0) (Jc hi n) mx:=nrfl rfl
theorem Yh (s n m:Nat)(f:Nat→AV)(q:Bool)(l h:Int):Vn s n m f q (some l) (some h)=Q4 (0≤l∧l≤h∧h≤n) (some (.sl (h-l).toNat (min ((h-l).toNat*s) (m-l.toNat*s)) (fun j=>f (l.toNat*s+j)) (q && decide (h=n)))):=nrfl rfl
theorem Yg (s id ver es off n:Nat)(l h:Int):Vm s id ver es off n (some l) (some h)=Q4 (0≤l∧l≤h∧h≤n∧es=s) (some (.osl id ver es (off+l.toNat*s) (h-l).toNat)):=nrfl rfl
theorem Yi (s n m:Nat)(f:Nat→AV)(l h:Int)(k:IntKind)(q:Int):Vo s n m f (some l) (some h) (.int k q)=Q4 (0≤l∧l≤h∧h≤n∧q=h) (some (.sl (h-l).toNat (min ((h-l).toNat*s) (m-l.toNat*s)) (fun j=>f (l.toNat*s+j)) true)):=nrfl rfl
theorem m8 (n m:Nat)(f:Nat→AV)(q:Bool):MP P t (.sl n m f q)=Q4 ((At P t).isSome=true) (some (.int .i64 n)):=nrfl rfl
theorem dY (a b c d n:Nat):MP P t (.osl a b c d n)=Q4 ((At P t).isSome=true) (some (.int .i64 n)):=nrfl rfl
def dI (a b:Option IntKind)(x:AV):Option AV :=
 match a,b,x with
 |some _,some k,.int _ n=>some (.int k (k.wrap n))
 |_,_,_=>none
theorem lY (u:TypeId)(x:AV):Nf P t u x=dI (VU P t) (VU P u) x:=nrfl rfl
theorem dJ (a k q:IntKind)(n:Int):dI (some a) (some k) (.int q n)=some (.int k (k.wrap n)):=nrfl rfl
theorem sF (o:AO):Kb none h o=h ++ [o]:=nrfl rfl
theorem sG (id:Nat)(o:AO):Kb (some id) h o=h.set id o:=nrfl rfl
theorem ot:Qz none h=h.length:=nrfl rfl
theorem ou (id:Nat):Qz (some id) h=id:=nrfl rfl
variable (nid:Option Nat)
def Ve (z:Option (List AV)) (nid:Option Nat) (h:List AO):Option (AV×List AO) :=
 match z with
 |some z=>some (.ref (Qz nid h) 0 0,Kb nid h (.row 0 z.length (Xf z)))
 |none=>none
theorem dj:Ax P nid t h=Ve (Q9 P t) nid h:=nrfl rfl
theorem WT (z:List AV):Ve (some z) nid h=some (.ref (Qz nid h) 0 0,Kb nid h (.row 0 z.length (Xf z))):=nrfl rfl
theorem r9 (v:AV):MK nid v h=Q4 (v.cells.all AV.one=true) (some (.ref (Qz nid h) 0 0,Kb nid h (.row 0 v.cells.length (Xf (v.cells.map AV.boxed))))):=nrfl rfl
def TG (e:Option (TypeId×Nat×Nat)) (P:Program) (nid:Option Nat) (n m:Int) (h:List AO):Option (AV×List AO) :=
 match e with
 |some (e,s,by_) =>
  match Q9 P e with
  |some z=>Q4 (m=n∧0≤n∧by_*n≤140737488355328∧n≤9223372036854775807) (some (.osl (Qz nid h) 0 s 0 n.toNat,Kb nid h (.row 0 (n.toNat*s) (ZE z))))
  |none=>none
 |none=>none
theorem m9 (a b:IntKind)(n m:Int):DM P nid t (.int a n) (.int b m) h=TG (At P t) P nid n m h:=nrfl (by
 unfold DM TG;cases At P t <;> first |rfl | (rename_i x;obtain⟨_,_,_⟩:=x;rfl))
def ee (z:Option (List AV)) (s by_:Nat) (nid:Option Nat) (n m:Int) (h:List AO):Option (AV×List AO) :=
 match z with
 |some z=>Q4 (m=n∧0≤n∧by_*n≤140737488355328∧n≤9223372036854775807) (some (.osl (Qz nid h) 0 s 0 n.toNat,Kb nid h (.row 0 (n.toNat*s) (ZE z))))
 |none=>none
theorem ed (e s b:Nat)(n m:Int):TG (some (e,s,b)) P nid n m h=ee (Q9 P e) s b nid n m h:=nrfl rfl
theorem ef (z:List AV)(s b:Nat)(n m:Int):ee (some z) s b nid n m h=Q4 (m=n∧0≤n∧b*n≤140737488355328∧n≤9223372036854775807) (some (.osl (Qz nid h) 0 s 0 n.toNat,Kb nid h (.row 0 (n.toNat*s) (ZE z)))):=nrfl rfl
theorem Vp (s n m:Nat)(g:Nat→AV)(q:Bool):D6 s (.sl n m g q) h=Q4 (n*s≤m) (some (n,g)):=nrfl rfl
def dK (e:Option (TypeId×Nat×Nat)) (x y:AV) (h:List AO):Option (AV×List AO) :=
 match e with
 |none=>none
 |some (_,s,_) =>
  match D6 s y h with
  |none=>none
  |some (m,g) =>
   match x with
   | .osl id ver es off n =>
    match h[id]? with
    |some (.row v k f)=>Q4 (v=ver∧es=s∧off+min m n*s≤k∧(∀j,j<min m n*s→(g j).one=true))
      (some (.int .i64 ((min m n:Nat):Int),h.set id (.row v k (Lm off (min m n*s) f g))))
    |_=>none
   |_=>none
theorem lZ (x y:AV):Fe P t x y h=dK (At P t) x y h:=nrfl rfl
def dP (o:Option (Nat×(Nat→AV))) (s:Nat) (x:AV) (h:List AO):Option (AV×List AO) :=
 match o with
 |none=>none
 |some (m,g) =>
  match x with
  | .osl id ver es off n =>
   match h[id]? with
   |some (.row v k f)=>Q4 (v=ver∧es=s∧off+min m n*s≤k∧(∀j,j<min m n*s→(g j).one=true))
     (some (.int .i64 ((min m n:Nat):Int),h.set id (.row v k (Lm off (min m n*s) f g))))
   |_=>none
  |_=>none
theorem dM (e s b:Nat)(x y:AV):dK (some (e,s,b)) x y h=dP (D6 s y h) s x h:=nrfl rfl
def dN (o:Option AO)(id ver es off n s m:Nat)(g:Nat→AV)(h:List AO):Option (AV×List AO) :=
 match o with
 |some (.row v k f)=>Q4 (v=ver∧es=s∧off+min m n*s≤k∧(∀j,j<min m n*s→(g j).one=true))
     (some (.int .i64 ((min m n:Nat):Int),h.set id (.row v k (Lm off (min m n*s) f g))))
 |_=>none
theorem Tx (m s id ver es off n:Nat)(g:Nat→AV):dP (some (m,g)) s (.osl id ver es off n) h=dN h[id]? id ver es off n s m g h:=nrfl rfl
theorem dO (id ver es off n s m v k:Nat)(f g:Nat→AV):dN (some (.row v k f)) id ver es off n s m g h =
 Q4 (v=ver∧es=s∧off+min m n*s≤k∧(∀j,j<min m n*s→(g j).one=true))
     (some (.int .i64 ((min m n:Nat):Int),h.set id (.row v k (Lm off (min m n*s) f g)))):=nrfl rfl
def pS (e:Option (TypeId×Nat×Nat)) (x y:AV) (h:List AO):Option (AV×List AO) :=
 match e with
 |none=>none
 |some (_,s,by_) =>
  match D6 s y h with
  |none=>none
  |some (m,g) =>
   match x with
   | .osl id ver es off n =>
    match h[id]? with
    |some (.row v k f)=>Q4 (v=ver∧es=s∧off=0∧n*s≤k∧(∀j,j<m*s→(g j).one=true)∧(n+m)*by_≤140737488355328∧n+m≤9223372036854775807)
      (some (.osl id (v+1) s 0 (n+m),h.set id (.row (v+1) ((n+m)*s) (Qf (n*s) f (m*s) g))))
    |_=>none
   | .sl n k f true=>if m=0∧0<n then some (.sl n k f true,h)else Q4 (n*s≤k∧(n=0∨0<m)∧(∀j,j<m*s→(g j).one=true)∧(n+m)*by_≤140737488355328∧n+m≤9223372036854775807)
      (some (.osl h.length 0 s 0 (n+m),h ++ [.row 0 ((n+m)*s) (Qf (n*s) f (m*s) g)]))
   |_=>none
theorem dm (x y:AV):QG P t x y h=pS (At P t) x y h:=nrfl rfl
def dk (o:Option (Nat×(Nat→AV))) (s by_:Nat) (x:AV) (h:List AO):Option (AV×List AO) :=
 match o with
 |none=>none
 |some (m,g) =>
  match x with
  | .osl id ver es off n =>
   match h[id]? with
   |some (.row v k f)=>Q4 (v=ver∧es=s∧off=0∧n*s≤k∧(∀j,j<m*s→(g j).one=true)∧(n+m)*by_≤140737488355328∧n+m≤9223372036854775807)
     (some (.osl id (v+1) s 0 (n+m),h.set id (.row (v+1) ((n+m)*s) (Qf (n*s) f (m*s) g))))
   |_=>none
  | .sl n k f true=>if m=0∧0<n then some (.sl n k f true,h)else Q4 (n*s≤k∧(n=0∨0<m)∧(∀j,j<m*s→(g j).one=true)∧(n+m)*by_≤140737488355328∧n+m≤9223372036854775807)
     (some (.osl h.length 0 s 0 (n+m),h ++ [.row 0 ((n+m)*s) (Qf (n*s) f (m*s) g)]))
  |_=>none
theorem Vf (e s b:Nat)(x y:AV):pS (some (e,s,b)) x y h=dk (D6 s y h) s b x h:=nrfl rfl
def pT (o:Option AO)(id ver es off n s by_ m:Nat)(g:Nat→AV)(h:List AO):Option (AV×List AO) :=
 match o with
 |some (.row v k f)=>Q4 (v=ver∧es=s∧off=0∧n*s≤k∧(∀j,j<m*s→(g j).one=true)∧(n+m)*by_≤140737488355328∧n+m≤9223372036854775807)
     (some (.osl id (v+1) s 0 (n+m),h.set id (.row (v+1) ((n+m)*s) (Qf (n*s) f (m*s) g))))
 |_=>none
theorem H6 (m s b id ver es off n:Nat)(g:Nat→AV):dk (some (m,g)) s b (.osl id ver es off n) h=pT h[id]? id ver es off n s b m g h:=nrfl rfl
theorem dl (m s b n k:Nat)(f g:Nat→AV):dk (some (m,g)) s b (.sl n k f true) h =
 if m=0∧0<n then some (.sl n k f true,h)else Q4 (n*s≤k∧(n=0∨0<m)∧(∀j,j<m*s→(g j).one=true)∧(n+m)*b≤140737488355328∧n+m≤9223372036854775807)
     (some (.osl h.length 0 s 0 (n+m),h ++ [.row 0 ((n+m)*s) (Qf (n*s) f (m*s) g)])):=nrfl rfl
theorem On (id ver es off n s b m v k:Nat)(f g:Nat→AV):pT (some (.row v k f)) id ver es off n s b m g h =
 Q4 (v=ver∧es=s∧off=0∧n*s≤k∧(∀j,j<m*s→(g j).one=true)∧(n+m)*b≤140737488355328∧n+m≤9223372036854775807)
     (some (.osl id (v+1) s 0 (n+m),h.set id (.row (v+1) ((n+m)*s) (Qf (n*s) f (m*s) g)))):=nrfl rfl
theorem th (l:List AV)(i:Nat):GK l i []=l:=nrfl rfl
theorem tf (l:List AV)(i:Nat)(a:AV)(r:List AV):GK l i (a :: r)=GK (l.set i a) (i+1) r:=nrfl rfl
theorem tS (z:List AV):Fd z 0=[]:=nrfl rfl
theorem tR (z:List AV)(n:Nat):Fd z (n+1)=z ++ Fd z n:=nrfl rfl
theorem lX (pl:Nat→Option (Nat×Nat)) (l:List AV):ZF pl l []=some l:=nrfl (by cases l <;> rfl)
def df (o:Option (Nat×Nat)) (pl:Nat→Option (Nat×Nat)) (cells:List AV) (v:AV) (rest:List (Nat×AV)):Option (List AV) :=
 match o with
 |some (off,size)=>Q4 (v.cells.length=size∧off+size≤cells.length∧v.cells.all AV.one=true) (ZF pl (GK cells off (v.cells.map AV.loose)) rest)
 |none=>none
theorem lW (pl:Nat→Option (Nat×Nat)) (l:List AV) (i:Nat) (v:AV) (r:List (Nat×AV)):ZF pl l ((i,v) :: r)=df (pl i) pl l v r:=nrfl (by cases l <;> rfl)
theorem di (pl:Nat→Option (Nat×Nat)) (l:List AV) (v:AV) (r:List (Nat×AV)) (off size:Nat):df (some (off,size)) pl l v r =
 Q4 (v.cells.length=size∧off+size≤l.length∧v.cells.all AV.one=true) (ZF pl (GK l off (v.cells.map AV.loose)) r):=nrfl rfl
def Vg (z:Option (List AV)) (P:Program) (t:TypeId) (parts:List (Nat×AV)):Option AV :=
 match z with
 |some z=>Q4 (Af P t=true) ((ZF (Qv P t) z parts).map .agg)
 |none=>none
theorem PA (ps:List (Nat×AV)):Fv P t ps=Vg (Q9 P t) P t ps:=nrfl rfl
theorem Nc (z:List AV)(ps:List (Nat×AV)):Vg (some z) P t ps=Q4 (Af P t=true) ((ZF (Qv P t) z ps).map .agg):=nrfl rfl
def Py (e:Option (TypeId×Nat×Nat)) (P:Program) (n:Nat) (parts:List (Nat×AV)):Option AV :=
 match e with
 |some (e,s,_) =>
  match Q9 P e with
  |some z=>Q4 (n*s≤2 ^ 24) ((ZF (fun i=>some (i*s,s)) (Fd z n) parts).map fun l=>.sl n (n*s) (Xf l) true)
  |none=>none
 |none=>none
theorem Nd (n:Nat)(ps:List (Nat×AV)):JL P t n ps=Py (At P t) P n ps:=nrfl rfl
def Pz (z:Option (List AV)) (s n:Nat) (parts:List (Nat×AV)):Option AV :=
 match z with
 |some z=>Q4 (n*s≤2 ^ 24) ((ZF (fun i=>some (i*s,s)) (Fd z n) parts).map fun l=>.sl n (n*s) (Xf l) true)
 |none=>none
theorem IW (e s b n:Nat)(ps:List (Nat×AV)):Py (some (e,s,b)) P n ps=Pz (Q9 P e) s n ps:=nrfl rfl
theorem IX (z:List AV)(s n:Nat)(ps:List (Nat×AV)):Pz (some z) s n ps=Q4 (n*s≤2 ^ 24) ((ZF (fun i=>some (i*s,s)) (Fd z n) ps).map fun l=>.sl n (n*s) (Xf l) true):=nrfl rfl
theorem uD (u:TypeId)(m:Nat)(ps:List (Nat×AV)) (h:List AO) (K:AV→List AO→Prop):uC false P u m ps h K=XY (JL P u m ps) fun v=>K v h:=nrfl rfl
theorem uE (u:TypeId)(m:Nat)(ps:List (Nat×AV)) (h:List AO) (K:AV→List AO→Prop):uC true P u m ps h K=XY (KP P u m ps h) fun r=>K r.1 r.2:=nrfl rfl
def ue (e:Option (TypeId×Nat×Nat)) (x:Option AV) (h:List AO):Option (AV×List AO) :=
 match e with
 |some (_,s,_) =>
  match x with
  |some (.sl k m f _)=>some (.osl h.length 0 s 0 k,h ++ [.row 0 m f])
  |_=>none
 |none=>none
theorem WZ (n:Nat)(ps:List (Nat×AV)) (h:List AO):KP P t n ps h=ue (At P t) (JL P t n ps) h:=nrfl rfl
theorem r8 (e s b k m:Nat)(f:Nat→AV)(t:Bool)(h:List AO):ue (some (e,s,b)) (some (.sl k m f t)) h=some (.osl h.length 0 s 0 k,h ++ [.row 0 m f]):=nrfl rfl
def TM (a:Option (TypeId×Nat×Nat)) (b:Option IntKind) (P:Program) (x y:AV) (h:List AO):Option (AV×List AO) :=
 match a,b,x,y with
 |some (e,s,by_),some .i64,.sl 0 _ _ true,.int .i64 n =>
  match Q9 P e with
  |some z=>Q4 (0<n∧by_*n≤140737488355328∧n≤9223372036854775807) (some (.osl h.length 0 s 0 n.toNat,h ++ [.row 0 (n.toNat*s) (ZE z)]))
  |none=>none
 |some (e,s,by_),some .i64,.sl (N+1) k f true,.int .i64 n =>
  match Q9 P e with
  |some z=>if n=0 then some (.sl (N+1) k f true,h)else Q4 (0<n∧(N+1)*s≤k∧by_*(N+1+n)≤140737488355328∧(N:Int)+1+n≤9223372036854775807) (some (.osl h.length 0 s 0 (N+1+n.toNat),h ++ [.row 0 ((N+1+n.toNat)*s) (Qf ((N+1)*s) f (n.toNat*s) (ZE z))]))
  |none=>none
 |some (e,s,by_),some .i64,.osl id ver es off N,.int .i64 n =>
  match Q9 P e with
  |some z=>match h[id]? with
   |some (.row v k f)=>if n=0 then some (.osl id ver es off N,h)else Q4 (0<n∧0<N∧v=ver∧es=s∧off=0∧N*s≤k∧z.all AV.one=true∧by_*(N+n)≤140737488355328∧(N:Int)+n≤9223372036854775807) (some (.osl id (v+1) s 0 (N+n.toNat),h.set id (.row (v+1) ((N+n.toNat)*s) (Qf (N*s) f (n.toNat*s) (ZE z)))))
   |_=>none
  |none=>none
 |_,_,_,_=>none
theorem FY (u:TypeId)(x y:AV):JQ P t u x y h=TM (At P t) (VU P u) P x y h:=nrfl rfl
def eH (z:Option (List AV)) (s by_ N k:Nat) (f:Nat→AV) (n:Int) (h:List AO):Option (AV×List AO) :=
 match z with
 |some z=>if n=0 then some (.sl (N+1) k f true,h)else Q4 (0<n∧(N+1)*s≤k∧by_*(N+1+n)≤140737488355328∧(N:Int)+1+n≤9223372036854775807) (some (.osl h.length 0 s 0 (N+1+n.toNat),h ++ [.row 0 ((N+1+n.toNat)*s) (Qf ((N+1)*s) f (n.toNat*s) (ZE z))]))
 |none=>none
theorem Lc (e s b N k:Nat)(f:Nat→AV)(n:Int):TM (some (e,s,b)) (some .i64) P (.sl (N+1) k f true) (.int .i64 n) h=eH (Q9 P e) s b N k f n h:=nrfl rfl
theorem Ld (z:List AV)(s b N k:Nat)(f:Nat→AV)(n:Int):eH (some z) s b N k f n h=if n=0 then some (.sl (N+1) k f true,h)else Q4 (0<n∧(N+1)*s≤k∧b*(N+1+n)≤140737488355328∧(N:Int)+1+n≤9223372036854775807) (some (.osl h.length 0 s 0 (N+1+n.toNat),h ++ [.row 0 ((N+1+n.toNat)*s) (Qf ((N+1)*s) f (n.toNat*s) (ZE z))])):=nrfl rfl
end
theorem ai (m:Nat)(f:Nat→AV)(o:Nat):(AV.ptr m f o).isPtr=true:=nrfl rfl
theorem NA (a b c:Nat):(AV.ref a b c).isPtr=true:=nrfl rfl
theorem s9 (l:List Int):X8 l=.sl l.length l.length (QL I 0 l) false:=nrfl rfl
theorem oZ (l:List Nat)(id i:Nat):GQ l id i=(l.contains id && !l.contains (1000*id+1000+i)):=nrfl rfl
section
variable (m:Nat)
theorem uk:Jq m .any=True:=eq_true fun _ v _=>.any v
theorem wM (n:Int):Jq m (I n)=True:=eq_true (X6 (Xb n))
theorem rk (b:Bool):Jq m (.bool b)=True:=eq_true (X6 (X5 b))
theorem um {id v o:Nat}(h:id<m):Jq m (.ref id v o)=True:=eq_true (QH h)
theorem ul {id v e o n:Nat}(h:id<m):Jq m (.osl id v e o n)=True:=eq_true (JR h)
theorem rn (l:List Int):Jq m (X8 l)=True:=eq_true (X6 (Xc l))
theorem un (n:Nat)(f:Nat→AV)(t:Bool):Jq m (.sl n 0 f t)=True:=eq_true (X6 (J3 fun _ h=>absurd h (Nat.not_lt_zero _)))
theorem uh {l:List AV}(h:∀a∈l,Jq m a):Jq m (.agg l)=True:=eq_true (me h)
theorem vX {g:FuncId}{l:List AV}(h:∀a∈l,Jq m a):Jq m (.fn g l)=True:=eq_true (TP h)
theorem vU (v n:Nat)(l:List Int):Qa m (.row v n (QL I 0 l))=True:=eq_true fun _ _=>X6 (Xb _)
theorem D9 {l:List AV}(h:∀ a∈l,Jq m a)(j:Nat):Jq m (Xf l j):=by
 show Jq m (l.getD j .any);rw[List.getD_eq_getElem?_getD];by_cases hj:j<l.length
 ·rw[List.getElem?_eq_getElem hj];exact h _ (List.getElem_mem _)
 ·rw[List.getElem?_eq_none (by omega)];exact X6 Jo
theorem vV {v n:Nat}{l:List AV}(h:∀a∈l,Jq m a):Qa m (.row v n (Xf l))=True:=eq_true fun j _=>D9 m h j
theorem rj {v n:Nat}{l:List AV}(h:∀a∈l,Jq m a):Qa m (.con v n (Xf l))=True:=eq_true fun j _=>D9 m h j
end
def XW:=XK @uk <| XK @wM <| XK @rk <| XK @um <| XK @ul <| XK @rn <| XK @un <| XK @uh <| XK @vX <| XK @vU <| XK @vV <| @rj
def vI:=XK @Nat.zero_add <| XK @Nat.add_zero <| XK @Nat.zero_lt_succ <| XK @Nat.min_self <| XK @Nat.zero_min <| XK @Nat.min_zero <| XK @Nat.sub_zero <| XK @Nat.zero_mul <| XK @Int.le_refl <| XK @Nat.le_refl <| XK @Nat.lt_irrefl <| XK @Nat.mul_one <| XK @Bool.false_eq_true <| XK @Bool.true_eq_false <| XK @decide_true <| XK @decide_false <| XK @decide_eq_true_eq <| XK @decide_eq_false_iff_not <| XK @Bool.not_true <| XK @Bool.not_false <| XK @Bool.not_eq_true' <| XK @Bool.not_eq_false' <| XK @Bool.and_true <| XK @Bool.true_and <| XK @Bool.false_and <| XK @true_and <| XK @and_true <| XK @false_and <| XK @and_false <| XK @not_true_eq_false <| XK @not_false_eq_true <| XK @or_true <| XK @true_or <| XK @or_false <| XK @false_or <| XK @Bool.or_false <| XK @Bool.or_true <| XK @Bool.false_or <| XK @Bool.true_or <| XK @Int.natCast_nonneg <| XK @Int.ofNat_lt <| XK @Int.ofNat_le <| XK @Int.ofNat_inj <| @Int.ofNat_zero
def vJ:=XK @uD <| XK @uE <| XK @WZ <| XK @r8 <| XK @Lc <| XK @Ld <| XK @lD <| XK @lE <| XK @qY <| XK @qZ <| XK @qT <| XK @qU <| XK @qI <| XK @qJ <| XK @qR <| XK @qS <| XK @qK <| XK @qM <| XK @qL <| XK @qP <| XK @qQ <| XK @qW <| XK @qX <| XK @qN <| XK @qO <| XK @lI <| XK @lH <| XK @qV <| XK @tZ <| XK @tY <| XK @tX <| XK @lJ <| XK @sr <| XK @oC <| XK @mY <| XK @mZ <| XK @fI <| XK @fJ <| XK @fE <| XK @U1 <| XK @fF <| XK @OM <| XK @mO <| XK @rB <| XK @fA <| XK @MV <| XK @MW <| XK @R3 <| XK @YE <| XK @OL <| XK @Yz <| XK @Lj <| XK @fD <| XK @Yy <| XK @YF <| XK @mP <| XK @U0 <| XK @lZ <| XK @dM <| XK @Tx <| XK @dO <| XK @YD <| XK @YB <| XK @jx <| XK @aO <| XK @R0 <| XK @PZ <| XK @tG <| XK @tF <| XK @AR <| XK @TD <| XK @JZ <| XK @K0 <| XK @TF <| XK @Lb <| XK @SN <| XK @SM <| XK @HN <| XK @PI <| XK @Tz <| XK @HJ <| XK @Ox <| XK @PG <| XK @PH <| XK @H8 <| XK @Ou <| XK @D3 <| XK @dV <| XK @PF <| XK @ma <| XK @iu <| XK @iv <| XK @eG <| XK @TL <| XK @PM <| XK @PN <| XK @Yh <| XK @Yg <| XK @Yi <| XK @m8 <| XK @dY <| XK @lY <| XK @dJ <| XK @sF <| XK @sG <| XK @ot <| XK @ou <| XK @dj <| XK @WT <| XK @r9 <| XK @m9 <| XK @ed <| XK @ef <| XK @Vp <| XK @dm <| XK @Vf <| XK @H6 <| XK @dl <| XK @On <| XK @th <| XK @tf <| XK @tS <| XK @tR <| XK @lX <| XK @lW <| XK @di <| XK @PA <| XK @Nc <| XK @Nd <| XK @IW <| XK @IX <| XK @FY <| XK @ai <| XK @NA <| XK @s9 <| @oZ
end
end Go.Ab
namespace Go.Ab
open Go Go.RowKit
noncomputable section
theorem Marks.pokeLoop {c0 c:Ctx}{l:Nat}{r:Loop}(hk:Kept c l (.loop r)) (o:Obj):∀ {ds:List Deferred},Marks c0 c ds→Marks c0 ⟨c.w.putObj l o,c.S,c.γ,c.H⟩ ds
 | [],_=>trivial
 |_ :: _,⟨⟨D,e,h1,h2,h3⟩,h⟩=>⟨⟨D,e,h1,h2.poke (fun e=>by
   have:=h2.1;rw[e,hk.1]at this;cases this) (J5 c.w l o),h3⟩,h.pokeLoop hk o⟩
theorem Rk {m:Nat}{c0 c:Ctx}{l:Nat}{o:Obj}(hx:ExtB m c0 c)(hl:ZK c0 l):ExtB m c0 ⟨c.w.putObj l o,c.S,c.γ,c.H⟩ :=
 ⟨fun id o hid ho=>hx.hle id o hid ho,hx.smono,hx.snew,hx.onew,fun b hb hn=>(J5 c.w l o b (fun e=>hn (e▸hl))).trans (hx.same b hb hn),by rw[World.putObj_size];exact hx.size,hx.os,hx.tape,hx.output⟩
theorem LW {c:Ctx}{l:Nat}{o o':Obj}(h:Kept c l o):Kept ⟨c.w.putObj l o',c.S,c.γ,c.H⟩ l o':=⟨World.putObj_heap_same h.lt,h.2.1,h.2.2⟩
theorem O4 {X:Env}{l:Nat}{r:Loop}{k:List Item}{s:AS}(hX:X.rnd=some (l,r)) (ht:X.tok=[]) (hr:r.state=.ready) (h:Run { X with rnd:=some (l,{ r with state:=.busy }) } k s):Run X (.beginRound :: k) s:=by
 intro hm ho hrn c0 c a ds hst hp b cs hf hk hb;have hkp:=hp.rnd l r hX;have hb':b.roundOf=some l:=by rw[hb,hX];rfl
 obtain⟨v,fr,r',c',h1,h2,h3,h4,h5,h6,h7⟩:=h hm (fun i hi=>ho i (List.mem_cons_of_mem _ hi)) (fun _=>hrn (by rw[hX];rfl)) c0 ⟨c.w.putObj l (.loop { r with state:=.busy }),c.S,c.γ,c.H⟩ a ds (hst.poke hkp.1)
  ⟨Rk hp.ext hkp.2,fun p hp'=>absurd hp' (by show p∉X.tok;rw[ht];exact List.not_mem_nil),fun l' r' e=>by cases e;exact⟨LW hkp.1,hkp.2⟩,hp.marks.pokeLoop hkp.1 _,fun _ _ _ _ e=>by cases e⟩ b cs hf hk hb'
 refine⟨v,fr,r',c',.head (stepR_beginRound hb' (run_beginRound hkp.1.1 hr)) h1,?_,h3,h4,by rw[D0 hX];rw[D0 (X:={ X with rnd:=some (l,{ r with state:=.busy }) }) rfl]at h5;exact h5,?_,h7⟩
 ·unfold ll at h2 ⊢
  rw[hX];exact h2
 ·intro l' r'' e
  rw[hX]at e;cases e;obtain⟨st,pe,hq⟩:=h6 l _ rfl;exact⟨st,pe,hq⟩
def Wg (s:AS):List Nat→List AV→AS
 |p :: ps,v :: vs=>Wg (s.put p v) ps vs
 |_,_=>s
def Rf (P:Program)(fn:Func)(str hcs:List Nat)(m l:Nat)(r:Loop)(H':List AO):Env:=⟨P,fn,888888 :: str,hcs,m,some (l,r),[],none,fun _ H=>H.take m=H'⟩
def iM:Loop:={ state:=.ready,pending:=none,fn:=0,tmps:=#[],params:=#[],assign:=.skip,body:=.skip,defers:=0 }
def qE (c:Code):Loop:={ iM with pending:=some c }
def wo (q:Option Code):Option (Nat×Loop×Loop):=match q with |none=>none |some c=>some (0,iM,qE c)
def iD (q:Option Code):Prop:=∀c,q=some c→c=.ret∨∃id,c=.exit id
def OV (P:Program)(fn:Func)(str hcs:List Nat)(m l:Nat)(r:Loop)(H':List AO)(q:Option Code):Env:=⟨P,fn,888888 :: str,hcs,m,some (l,r),[],wo q,fun _ H=>H.take m=H'⟩
def K3 (r:Loop):Option Code→Loop
 |none=>r
 |some c=>{ r with state:=.done,pending:=some c }
theorem Bd {w:World}{l:Nat}{o:Obj}(h:w.heap[l]?=some o):w.putObj l o=w:=by
 unfold World.putObj;have:w.heap.setIfInBounds l o=w.heap:=by
  apply Array.ext_getElem?;intro i;rw[Array.getElem?_setIfInBounds]
  split
  ·rename_i e;subst e
   split
   ·exact h.symm
   ·rename_i hn;rw[Array.getElem?_eq_none (by omega)]
  ·rfl
 rw[this]
theorem C0 (w:World)(l:Nat)(o o':Obj):(w.putObj l o).putObj l o'=w.putObj l o':=by
 unfold World.putObj;simp
def YC (P:Program)(t:Tok)(q:Option Code)(args:List AV)(H H':List AO):Prop :=
 ∀ (c:Ctx) (vs:Array Value),c.H=H→HRel c→TokOk c t→RepL c vs args→∃f tmps assign body,(Instr.yield t.l vs).run P c.w=.ok (.round t.l f tmps assign body) c.w ∧
  RoundIn Fence.wide 0 P t.l f tmps assign body c.w fun e w'=>∃S' γ',e=.returned (.bool q.isNone)∧w'.heap[t.l]?=some (.loop (K3 t.r q))∧HRel ⟨w'.putObj t.l (.loop t.r),S',γ',H'⟩∧Ext c ⟨w'.putObj t.l (.loop t.r),S',γ',H'⟩
theorem YC.call {P:Program}{t:Tok}{args:List AV}{H H':List AO}(h:YC P t none args H H'):YCall P t args H (.bool true) H':=by
 intro c vs h1 h2 h3 h4;obtain⟨f,tmps,assign,body,k1,k2⟩:=h c vs h1 h2 h3 h4;refine⟨f,tmps,assign,body,k1,k2.mono ?_⟩;rintro e w' ⟨S',γ',rfl,q1,q2,q3⟩;rw[show K3 t.r none=t.r from rfl]at q1;rw[Bd q1]at q2 q3;exact⟨.bool true,S',γ',rfl,.bool true,q2,q3⟩
structure LoopIs (P:Program)(fn:Func)(ps:Array Nat)(assign body:Code)(s:AS)(t:Tok):Prop where
 st:t.r.state=.ready
 pe:t.r.pending=none
 fc:P.funcs[t.r.fn]?=some fn
 ps:t.r.params=ps
 as:t.r.assign=assign
 bd:t.r.body=body
 at':∃a:Act,t.r.tmps=a.tmps∧St fn.ntmps t.ce a s
 ch:t.ce.H=s.h
theorem Wi {N:Nat}{c:Ctx}:∀ (ps:List Nat) (vs:List Value) (es:List AV) (a:Act) (s:AS),St N c a s→ps.length=es.length→vs.length=es.length→(∀j,j<es.length→Rep c (vs.getD j undef) (es.getD j .any))→(∀p∈ps,p<N) →
  St N c { tmps:=(ps.zip vs).foldl (fun t q=>t.setIfInBounds q.1 q.2) a.tmps,defers:=a.defers } (Wg s ps es)
 | [],vs,es,a,s,hst,_,_,_,_=>by simp only[List.zip_nil_left,List.foldl_nil];exact hst
 |p :: ps,[],es,a,s,hst,h1,h2,_,_=>by simp at h1 h2;omega
 |p :: ps,v :: vs,[],a,s,hst,h1,h2,_,_=>by simp at h1
 |p :: ps,v :: vs,e :: es,a,s,hst,h1,h2,h3,h4=>by
  have hp:=hst.putO (Ext.refl c) hst.hrel (d:=some p) (x:=v) (v:=e) (by simpa using h3 0 (by simp)) (fun i hi=>by cases hi;exact h4 p (by simp));have hs:({ s with h:=c.H }:AS)=s:=by rw[hst.heap]
  rw[hs]at hp;exact Wi ps vs es (a.put (some p) v) (s.put p e) hp (by simpa using h1) (by simpa using h2) (fun j hj=>by simpa using h3 (j+1) (by simpa using hj)) (fun q hq=>h4 q (by simp[hq]))
theorem HG (ps:Array Nat)(vs:Array Value)(t:Array Value):(ps.zip vs).foldl (fun t (q:Nat×Value)=>t.setIfInBounds q.1 q.2) t=(ps.toList.zip vs.toList).foldl (fun t q=>t.setIfInBounds q.1 q.2) t:=by
 rw[←Array.foldl_toList,Array.toList_zip]
theorem ME {P:Program}(q:Option Code)(hq:iD q){fn:Func}{ps:Array Nat}{assign body:Code}{s:AS}{t:Tok}{str hcs:List Nat}{elt:List AV}{H H':List AO}(hl:LoopIs P fn ps assign body s t)(hm:P.follows .mixedOrders=true)
  (hok:QC fn.ntmps (888888 :: str) hcs assign=true) (hok2:QC fn.ntmps (888888 :: str) hcs body=true) (hps:elt.length=ps.size) (hpN:∀p∈ps.toList,p<fn.ntmps) (hO:∀o∈H',Qa H.length o)
  (hrun:∀l r,r.state=.ready→Run (OV P fn str hcs H.length l r H' q) [.code assign,.beginRound,.code body] (Wg { s with h:=H } ps.toList elt)):YC P t q elt H H':=by
 rintro c vs rfl hr ⟨hkc,hext⟩ hv;obtain⟨a,hat,hst0⟩:=hl.at';have hsz:vs.size=t.r.params.size:=by rw[hv.1,hps,hl.ps]
 refine⟨t.r.fn,_,t.r.assign,t.r.body,run_yield hkc.1 hsz,trivial,fun cf cs _=>?_⟩;have hst1:St fn.ntmps c { tmps:=a.tmps,defers:=[] } { s with h:=c.H } :=
  ⟨hst0.size,rfl,fun i=>hext.rep hst0.hrel (hst0.slots i),rfl,hr⟩
 have hst2:=Wi ps.toList vs.toList elt _ _ hst1 (by simp[hps]) (by simp[hv.1]) (fun j hj=>by
  have:=hv.2 j hj
  simpa [Array.getD_eq_getD_getElem?,List.getD_eq_getElem?_getD]using this) hpN
 rw[←HG]at hst2;obtain⟨c0,hc0⟩:∃c0:Ctx,c0=⟨c.w,c.S,fun id=>if id=c.H.length then some (t.l,0)else c.γ id,c.H ++ [.map .i64 fun _=>none]⟩:=⟨_,rfl⟩
 have hown:ZK c0 t.l:=⟨c.H.length,.map .i64 fun _=>none,0,by rw[hc0];simp,rfl,by rw[hc0];simp⟩
 have hownB:∀b,ZK c0 b→ZK c b∨b=t.l:=by
  rintro b ⟨id,o,sz,ho,h1,h2⟩;rw[hc0]at ho h2;simp only at ho h2;by_cases hid:id=c.H.length
  ·rw[if_pos hid]at h2;cases h2;exact .inr rfl
  ·rw[if_neg hid]at h2
   have hlt:id<c.H.length:=by
    have:=(List.getElem?_eq_some_iff.1 ho).1;simp at this;omega
   rw[List.getElem?_append_left hlt]at ho;exact .inl ⟨id,o,sz,ho,h1,h2⟩
 have hget0:∀ (id:Nat),id<c.H.length→c0.H[id]?=c.H[id]?∧c0.γ id=c.γ id:=fun id hid=>by
  rw[hc0];exact⟨List.getElem?_append_left hid,by show(if id=c.H.length then _ else _)=_;rw[if_neg (by omega)]⟩
 have hx0:ExtB c.H.length c0 c:=by
  refine⟨?_,fun b hb=>by rw[hc0]at hb;exact hb,fun b hb=>.inl (by rw[hc0];exact hb),fun b hb=>.inr ?_,fun b _ _=>by rw[hc0],by rw[hc0];exact Nat.le_refl _,by rw[hc0],by rw[hc0],by rw[hc0]⟩
  ·intro id o hid ho
   obtain⟨e1,e2⟩:=hget0 id hid;rw[e1]at ho;have:=HLe.refl c id o ho;cases o <;> (first |trivial |exact this | (dsimp only at this ⊢;rw[e2];exact this))
  ·obtain⟨id,o,sz,ho,h1,h2⟩:=hb
   have hlt:=(List.getElem?_eq_some_iff.1 ho).1;obtain⟨e1,e2⟩:=hget0 id hlt;exact⟨id,o,sz,e1.trans ho,h1,e2.trans h2⟩
 let b:Frame:={ (default:Frame)with fn:=t.r.fn,kind:=.normal,roundOf:=some t.l }
 have hb0:∀tm:Array Value,Frame.round t.l t.r.fn tm t.r.assign t.r.body .normal=b.atR { ({ tmps:=tm,defers:=[] }:Act)with defers:=[] } [.code assign,.beginRound,.code body]:=fun tm=>by
  simp[Frame.round,Frame.atR,b,hl.as,hl.bd]
 obtain⟨v,fr,r',c',h1,h2,h3,h4,h5,h6,h7⟩:=hrun t.l t.r hl.st hm (by
   intro i hi;simp only[List.mem_cons,List.not_mem_nil,or_false]at hi;rcases hi with rfl |rfl |rfl
   ·exact hok
   ·rfl
   ·exact hok2) (fun _=>by simp[OV]) c0 c _ [] hst2 ⟨hx0,fun p hp=>absurd hp List.not_mem_nil,fun l r e=>by cases e;exact⟨hkc,hown⟩,trivial,fun _ _ _ _ e=>by cases e⟩ b (cf :: cs) hl.fc rfl rfl
 rw[D0 (q:=(t.l,t.r)) rfl]at h5;obtain⟨st,pe,hke⟩:=h6 t.l t.r rfl;have erec:({ t.r with state:=.ready,pending:=none }:Loop)=t.r:=by
  conv=>lhs;rw[←hl.st,←hl.pe]
 have hback:step P (lone fr (cf :: cs) c'.w)=.next (lone (cf.finish (.bool q.isNone)) cs (c'.w.putObj t.l (.loop (K3 t.r q)))):=by
  cases q with
  |none =>
   obtain⟨a',rfl⟩:∃a':Act,fr=b.atR { a' with defers:=[] } []:=h2;have hend:=run_endRound (P:=P) none hke.1;simp only[Option.isNone_none,if_true]at hend;rw[show({ ({ t.r with state:=st,pending:=pe }:Loop)with state:=.ready,pending:=none }:Loop)={ t.r with state:=.ready,pending:=none } from rfl,erec]at hend;exact stepR_round_end (P:=P) (b:=b) (a:={ a' with defers:=[] }) (cs:=cs) (c:=cf) rfl rfl hend
  |some c0 =>
   obtain⟨a',k',rfl,hx⟩:∃ (a':Act) (k':List Item),fr=b.atR { a' with defers:=[] } (.code c0 :: k')∧∀id,some c0=some (.exit id)→exitTo id k'=none:=h2;have hend:=run_endRound (P:=P) (some c0) hke.1;rcases hq c0 rfl with rfl | ⟨id,rfl⟩
   ·exact stepR_round_ret (P:=P) (b:=b) (a:={ a' with defers:=[] }) (k:=k') (cs:=cs) (c:=cf) rfl rfl hend
   ·exact stepR_round_exit (P:=P) (b:=b) (a:={ a' with defers:=[] }) (k:=k') (cs:=cs) (c:=cf) rfl rfl (hx id rfl) hend
 obtain⟨w4,hw4⟩:∃w4,w4=c'.w.putObj t.l (.loop t.r):=⟨_,rfl⟩
 have hsame4:∀b,b≠t.l→w4.heap[b]?=c'.w.heap[b]?:=fun b hb=>by rw[hw4];exact J5 _ _ _ b hb
 have hto:c'.H.take c.H.length=H':=h7;have hget':∀ (id:Nat),id<c.H.length→H'[id]?=c'.H[id]?:=fun id hid=>by rw[←hto,List.getElem?_take,if_pos hid]
 have hsub:∀ (id:Nat) (o:AO),H'[id]?=some o→c'.H[id]?=some o∧id<c.H.length:=fun id o ho=>by
  rw[←hto,List.getElem?_take]at ho
  split at ho
  ·exact⟨ho,by assumption⟩
  ·cases ho
 have hrel4:HRel ⟨w4,c'.S,c'.γ,H'⟩:=by
  have h8:=EN h4 c.H.length (by rw[hto];exact hO);rw[hto]at h8;exact EM (c:=⟨c'.w,c'.S,c'.γ,H'⟩) (l:=t.l) h8 hke.2.1 (fun⟨id,o,sz,ho,q1,q2⟩=>hke.2.2 ⟨id,o,sz,(hsub id o ho).1,q1,q2⟩) (by rw[hw4];simp) (fun b hb _=>hsame4 b hb)
 have hw5:(c'.w.putObj t.l (.loop (K3 t.r q))).putObj t.l (.loop t.r)=w4:=by rw[hw4,C0]
 refine⟨.returned (.bool q.isNone),c'.w.putObj t.l (.loop (K3 t.r q)),⟨c'.S,c'.γ,rfl,World.putObj_heap_same hke.lt,by rw[hw5];exact hrel4,?_⟩,?_⟩;rw[hw5]
 ·refine⟨?_,fun b hb=>h5.smono b (by rw[hc0];exact hb),fun b hb=>?_,fun b hb=>?_,fun b hb hn=>?_,?_,?_,?_,?_⟩
  ·intro id o ho
   have hid:=(List.getElem?_eq_some_iff.1 ho).1;obtain⟨e1,e2⟩:=hget0 id hid;have hh:=h5.hle id o hid (e1.trans ho);have e3:=hget' id hid;have e4:inf H' id=inf c'.H id:=by unfold inf;rw[e3]
   cases o <;> simp only at hh ⊢ <;> (try rw[e2]at hh) <;> (try rw[e3]) <;> (try rw[e4]) <;> exact hh
  ·rcases h5.snew b hb with q |q |q
   ·exact .inl (by rw[hc0]at q;exact q)
   ·exact .inr (.inl (by rw[hc0]at q;exact q))
   ·rcases hownB b q with q |rfl
    ·exact .inr (.inr q)
    ·exact absurd hb hke.2.1
  ·have hb':ZK c' b:=by obtain⟨id,o,sz,ho,q1,q2⟩:=hb;exact⟨id,o,sz,(hsub id o ho).1,q1,q2⟩
   rcases h5.onew b hb' with q |q
   ·exact .inl (by rw[hc0]at q;exact q)
   ·rcases hownB b q with q |rfl
    ·exact .inr q
    ·exact absurd hb' hke.2.2
  ·by_cases he:b=t.l
   ·subst he
    show w4.heap[t.l]?=_;rw[hkc.1,hw4];exact World.putObj_heap_same hke.lt
   ·show w4.heap[b]?=_
    rw[hsame4 b he,h5.same b (by rw[hc0];exact hb) (fun q=>(hownB b q).elim hn he),hc0]
  ·have:=h5.size
   rw[hc0]at this;show _≤w4.heap.size;rw[hw4,World.putObj_size];exact this
  ·have:=h5.os;rw[hc0]at this;rw[hw4];exact this
  ·have:=h5.tape;rw[hc0]at this;rw[hw4];exact this
  ·have:=h5.output;rw[hc0]at this;rw[hw4];exact this
 ·show StepsIn _ _ _ _
  refine stepsIn_wide.2 ?_;have e5:=hb0 ((t.r.params.zip vs).foldl (fun tmps (q:Nat×Value)=>tmps.setIfInBounds q.1 q.2) t.r.tmps);rw[e5];rw[hl.ps,hat];exact Steps.trans h1 (.one hback)
theorem Tf {P:Program}{fn:Func}{ps:Array Nat}{assign body:Code}{s:AS}{t:Tok}{str hcs:List Nat}{elt:List AV}{H H':List AO}(hl:LoopIs P fn ps assign body s t)(hm:P.follows .mixedOrders=true)
  (hok:QC fn.ntmps (888888 :: str) hcs assign=true) (hok2:QC fn.ntmps (888888 :: str) hcs body=true) (hps:elt.length=ps.size) (hpN:∀p∈ps.toList,p<fn.ntmps) (hO:∀o∈H',Qa H.length o)
  (hrun:∀l r,r.state=.ready→Run (Rf P fn str hcs H.length l r H') [.code assign,.beginRound,.code body] (Wg { s with h:=H } ps.toList elt)):YCall P t elt H (.bool true) H' :=
 (ME none (fun c e=>by cases e) hl hm hok hok2 hps hpN hO hrun).call
theorem TokOk.cut {c:Ctx}{t:Tok}{H1 rest:List AO}(h:TokOk c t)(hH:c.H=H1 ++ rest)(hm:t.ce.H.length≤H1.length):TokOk ⟨c.w,c.S,c.γ,H1⟩ t:=by
 have own1:∀b,ZK ⟨c.w,c.S,c.γ,H1⟩ b→ZK c b:=fun b ⟨id,o,sz,ho,hown,hg⟩=>⟨id,o,sz,by
  rw[hH,List.getElem?_append_left (List.getElem?_eq_some_iff.1 ho).1];exact ho,hown,hg⟩
 refine⟨⟨h.1.1,h.1.2.1,fun q=>h.1.2.2 (own1 _ q)⟩,⟨fun id o ho=>?_,h.2.smono,h.2.snew,fun b q=>h.2.onew b (own1 b q),h.2.same,h.2.size,h.2.os,h.2.tape,h.2.output⟩⟩;have hlt:=(List.getElem?_eq_some_iff.1 ho).1;have e3:c.H[id]?=H1[id]?:=by rw[hH,List.getElem?_append_left (by omega)]
 have e4:inf c.H id=inf H1 id:=by unfold inf;rw[e3]
 have hh:=h.2.hle id o ho;cases o <;> simp only at hh ⊢ <;> (try rw[e3]at hh) <;> (try rw[e4]at hh) <;> exact hh
theorem YCall.frame {P:Program}{t:Tok}{args:List AV}{H1 H1':List AO}{v:AV}(h:YCall P t args H1 v H1')(hlen:H1'.length=H1.length)(hce:t.ce.H.length≤H1.length)(hb:∀ a∈args,Jq H1.length a)(hO:∀ o∈H1,Qa H1.length o)(rest:List AO) :
  YCall P t args (H1 ++ rest) v (H1' ++ rest):=by
 intro c vs hH hr ht hv;have htake:c.H.take H1.length=H1:=by rw[hH];simp
 have hr1:HRel ⟨c.w,c.S,c.γ,H1⟩:=by
  have:=EN hr H1.length (by rw[htake];exact hO);rwa[htake]at this
 have hv1:RepL ⟨c.w,c.S,c.γ,H1⟩ vs args:=⟨hv.1,fun j hj=>by
  have hmem:args.getD j .any∈args:=by rw[List.getD_eq_getElem?_getD,List.getElem?_eq_getElem hj];exact List.getElem_mem _
  have:=hb _ hmem c _ (hv.2 j hj);rwa[htake]at this⟩
 obtain⟨f,tmps,assign,body,h1,h2⟩:=h ⟨c.w,c.S,c.γ,H1⟩ vs rfl hr1 (ht.cut hH hce) hv1;refine⟨f,tmps,assign,body,h1,h2.mono ?_⟩;rintro e w' ⟨x,S',γ',rfl,hx,hr',hext⟩;obtain⟨γ2,k1,k2,k3⟩:=FC hH hr hlen hx hr' hext;exact⟨x,S',γ2,rfl,k1,k2,k3⟩
theorem TV {X:Env}{M:Md}{o:Oper}{t:Tok}{l:Nat}{args as':List AV}{K:AS→Prop}{s:AS}{r:AV}{H1 H1' rest:List AO}(hb:M.hcall=true)(hl:t.l=l)(hmem:t∈X.tok)(h:YCall X.P t as' H1 r H1')(hs:s.h=H1 ++ rest)(hlen:H1'.length=H1.length)(hce:t.ce.H.length≤H1.length)
  (hbel:∀a∈as',Jq H1.length a) (hO:∀o∈H1,Qa H1.length o) (hborn:∀o∈H1,o≠.unborn) (hborn':∀o∈H1',o≠.unborn) (hcon:JP H1 H1') (ha:WeakL args as')
  (hK:K (({ s with h:=H1' ++ rest }:AS).putO o.dst r)):FU X M o (.yld l) args K s:=by
 subst hl;have hdrop:s.h.drop H1.length=rest:=by rw[hs];simp
 have hat:∀id:Nat,s.h[id]?=some .unborn→¬id<H1.length:=fun id hid hlt=>by
  rw[hs,List.getElem?_append_left hlt]at hid;exact hborn _ (List.mem_of_getElem? hid) rfl
 have hfirst:∀h2,de s.h h2→h2=H1 ++ h2.drop H1.length:=by
  intro h2 ho;have:h2.take H1.length=H1:=by
   apply List.ext_getElem?;intro i;rw[List.getElem?_take];by_cases hi:i<H1.length
   ·rw[if_pos hi,ho i (by rw[hs,List.getElem?_append_left hi];intro e;exact hborn _ (List.mem_of_getElem? e) rfl),hs,List.getElem?_append_left hi]
   ·rw[if_neg hi,List.getElem?_eq_none (by omega)]
  conv=>lhs;rw[←List.take_append_drop H1.length h2,this]
 refine⟨r,H1' ++ rest,⟨.inr t.l,args,rfl,.inr (.inr ⟨hb,as',ha,fun h2=>H1' ++ h2.drop H1.length,fun h2 ho=>?_,by show H1' ++ s.h.drop H1.length=_;rw[hdrop],?_,?_,?_⟩)⟩,hK⟩
 ·have:=h.frame hlen hce hbel hO (h2.drop H1.length)
  rw[←hfirst h2 ho]at this;exact⟨t,hmem,rfl,this⟩
 ·intro id v n f
  rw[hs];by_cases hi:id<H1.length
  ·rw[List.getElem?_append_left hi,List.getElem?_append_left (by omega)];exact hcon id v n f
  ·rw[List.getElem?_append_right (by omega),List.getElem?_append_right (by omega),hlen]
 ·intro h2 id ob ho hid
  have hge:=hat id hid;show H1' ++ (h2.set id ob).drop H1.length=(H1' ++ h2.drop H1.length).set id ob;rw[List.set_append_right _ _ (by omega),hlen,List.drop_set,if_neg (by omega)]
 ·intro id hid
  have hge:=hat id hid;rw[hs]at hid;rw[List.getElem?_append_right (by omega)]at hid ⊢;rw[hlen];exact hid
def ICallQ (P:Program)(t:Tok)(q:Option Code)(f:FuncId)(args:List AV)(H H':List AO):Prop :=
 BL P f∧∀ (c:Ctx) (vs:Array Value),c.H=H→HRel c→TokOk c t→RepL c vs args→Calls P f vs c.w fun e w'=>∃v S' γ',e=.returned v∧w'.heap[t.l]?=some (.loop (K3 t.r q))∧HRel ⟨w'.putObj t.l (.loop t.r),S',γ',H'⟩∧Ext c ⟨w'.putObj t.l (.loop t.r),S',γ',H'⟩
def ICall (P:Program)(t:Tok)(f:FuncId)(args:List AV)(H H':List AO):Prop:=ICallQ P t none f args H H'
def U6 (P:Program)(fn:Func)(str hcs:List Nat)(t:Tok)(m:Nat)(H':List AO):Env:=⟨P,fn,str,hcs,m,none,[t],none,fun _ H=>H.take m=H'⟩
def gc (P:Program)(fn:Func)(str hcs:List Nat)(t:Tok)(q:Code)(m:Nat)(H':List AO):Env:=⟨P,fn,str,hcs,m,none,[t],some (t.l,t.r,K3 t.r (some q)),fun _ H=>H.take m=H'⟩
def uN (P:Program)(fn:Func)(str hcs:List Nat)(m:Nat)(H':List AO):Env:=⟨P,fn,str,hcs,m,none,[],none,fun _ H=>H.take m=H'⟩
theorem Vz {m:Nat}{w':World}{S':Nat→Prop}{γ':Nat→Option (Nat×Nat)} {H'' H':List AO} {c:Ctx} (hm:m=c.H.length) (hO:∀o∈H',Qa m o) (h2:HRel ⟨w',S',γ',H''⟩) (h3:ExtB m c ⟨w',S',γ',H''⟩) (h4:H''.take m=H') :
  ∃S2 γ2,HRel ⟨w',S2,γ2,H'⟩∧Ext c ⟨w',S2,γ2,H'⟩:=by
 subst hm;have hst:St 0 ⟨w',S',γ',H''⟩ { tmps:=#[],defers:=[] } ⟨0,[],[],[],H''⟩:=⟨rfl,rfl,fun i=>.any _,rfl,h2⟩
 obtain⟨c',hw,hx,hst'⟩:=XT (b:=c.H.length) (m:=c.H.length) (s:=⟨0,[],[],[],H''⟩) (s':=⟨0,[],[],[],H''.take c.H.length⟩) (Nat.le_refl _) rfl trivial trivial rfl (by simp) (by simp) (by rw[←h4]at hO;exact hO) _ _ _ hst;have hH:=hst'.heap;have hrel:=hst'.hrel;obtain⟨w2,S2,γ2,H2⟩:=c';cases hw;cases hH;rw[←h4];exact⟨S2,γ2,hrel,(h3.trans hx).toExt (Nat.le_refl _)⟩
theorem ICall.intro {P:Program}{f:FuncId}{fn:Func}{body:Code}(he:BL P f)(hf:P.funcs[f]?=some fn)(hb:fn.body=some body)(hm:P.follows .mixedOrders=true){args:List AV}{t:Tok}{H H':List AO}
  (n0:Nat) (hid str hcs:List Nat) (hok:QC fn.ntmps str hcs body=true) (hlen:args.length≤fn.ntmps) (hce:t.ce.H.length≤H.length) (hO:∀o∈H',Qa H.length o)
  (h:Run (U6 P fn str hcs t H.length H') [.code body] (AS.start n0 hid args H)):ICall P t f args H H':=by
 refine⟨he,?_⟩;rintro c vs rfl hrc htk hv;refine Bo (X:=U6 P fn str hcs t c.H.length H') hf hb hm hok rfl hrc hv hlen h (fun p hp=>?_) ?_
 ·obtain rfl:p=t:=by simpa [U6]using hp
  exact⟨htk,hce⟩
 rintro v r' ⟨w',S',γ',H''⟩ h1 h2 h3 h4;obtain⟨S2,γ2,k1,k2⟩:=Vz rfl hO h2 h3 h4;have hq:=(htk.1.ext (k2.toB 0)).1;refine⟨v,S2,γ2,rfl,hq,?_,?_⟩ <;> rw[Bd hq]
 ·exact k1
 ·exact k2
theorem ICallQ.intro {P:Program}{f:FuncId}{fn:Func}{body:Code}(he:BL P f)(hf:P.funcs[f]?=some fn)(hb:fn.body=some body)(hm:P.follows .mixedOrders=true){args:List AV}{t:Tok}{H H':List AO}
  (q:Code) (n0:Nat) (hid str hcs:List Nat) (hok:QC fn.ntmps str hcs body=true) (hlen:args.length≤fn.ntmps) (hce:t.ce.H.length≤H.length) (hO:∀o∈H',Qa H.length o)
  (h:Run (gc P fn str hcs t q H.length H') [.code body] (AS.start n0 hid args H)):ICallQ P t (some q) f args H H':=by
 refine⟨he,?_⟩;rintro c vs rfl hrc htk hv;refine Fg (X:=gc P fn str hcs t q c.H.length H') hf hb hm hok rfl hrc hv hlen h (fun p hp=>?_) (fun l r r1 e=>by cases e;exact htk.1) ?_
 ·obtain rfl:p=t:=by simpa [gc]using hp
  exact⟨htk,hce⟩
 rintro v r' ⟨w',S',γ',H''⟩ h1 h2 ⟨h3,h3'⟩ h4;obtain⟨S2,γ2,k1,k2⟩:=Vz rfl hO (EM (c:=⟨w',S',γ',H''⟩) (l:=t.l) h2 h3.2.1 h3.2.2 (by simp) fun b hb _=>J5 w' t.l _ b hb) h3' h4;exact⟨v,S2,γ2,rfl,h3.1,k1,k2⟩
theorem Hl {m:Nat}{c c':Ctx}{l:Nat}{o:Obj}(h:ExtB m c c')(hl:l<c.w.heap.size):ExtB m ⟨c.w.putObj l o,c.S,c.γ,c.H⟩ ⟨c'.w.putObj l o,c'.S,c'.γ,c'.H⟩:=by
 have hs:=h.size;refine⟨h.hle,h.smono,fun b hb=>?_,fun b hb=>?_,fun b hb hn=>?_,?_,h.os,h.tape,h.output⟩
 ·rw[World.putObj_size];exact h.snew b hb
 ·rw[World.putObj_size];exact h.onew b hb
 ·rw[World.putObj_size]at hb
  by_cases e:b=l
  ·subst e
   rw[World.putObj_heap_same hl,World.putObj_heap_same (by omega)]
  ·rw[J5 _ _ _ b e,J5 _ _ _ b e];exact h.same b hb hn
 ·rw[World.putObj_size,World.putObj_size];exact hs
theorem YC.frame {P:Program}{t:Tok}{q:Option Code}{args:List AV}{H1 H1':List AO}(h:YC P t q args H1 H1')(hlen:H1'.length=H1.length)(hce:t.ce.H.length≤H1.length)(hb:∀ a∈args,Jq H1.length a)(hO:∀ o∈H1,Qa H1.length o)(rest:List AO) :
  YC P t q args (H1 ++ rest) (H1' ++ rest):=by
 intro c vs hH hr ht hv;have htake:c.H.take H1.length=H1:=by rw[hH];simp
 have hr1:HRel ⟨c.w,c.S,c.γ,H1⟩:=by
  have:=EN hr H1.length (by rw[htake];exact hO);rwa[htake]at this
 have hv1:RepL ⟨c.w,c.S,c.γ,H1⟩ vs args:=⟨hv.1,fun j hj=>by
  have hmem:args.getD j .any∈args:=by rw[List.getD_eq_getElem?_getD,List.getElem?_eq_getElem hj];exact List.getElem_mem _
  have:=hb _ hmem c _ (hv.2 j hj);rwa[htake]at this⟩
 obtain⟨f,tmps,assign,body,h1,h2⟩:=h ⟨c.w,c.S,c.γ,H1⟩ vs rfl hr1 (ht.cut hH hce) hv1;refine⟨f,tmps,assign,body,h1,h2.mono ?_⟩;rintro e w' ⟨S',γ',rfl,hq,hr',hext⟩;obtain⟨γ2,k1,k2,k3⟩:=FC hH hr hlen (x:=.bool q.isNone) (v:=.bool q.isNone) (.bool _) hr' hext;exact⟨S',γ2,rfl,hq,k2,k3⟩
theorem AExec.app {P:Program}{tok:List Tok}{strict:Nat→Bool}{hcall:Bool}{nid:Nat→Option Nat}{all:Array Oper}{N:Nat}{ro:Option Nat}{ds:List Deferred}(hN:∀ o∈all.toList,∀ i,o.dst=some i→i<N){Q:Exit→Act→World→Prop}{l2:List Nat}:∀ (l:List Nat) {s s':AS} {c:Ctx} {a:Act},St N c a s→(∀p∈tok,TokOk c p) →
  AExec P tok strict hcall nid all l s s'→(∀a' c',St N c' a' s'→Ext c c'→wpOpsIn (Zv ro) 0 P all Q l2 { a' with defers:=ds } c'.w)→wpOpsIn (Zv ro) 0 P all Q (l ++ l2) { a with defers:=ds } c.w
 | [],s,s',c,a,hst,htok,h,hQ=>by
  cases h;exact hQ a c hst (Ext.refl c)
 |i :: l,s,s',c,a,hst,htok,h,hQ=>by
  obtain⟨s1,h1,h2⟩:=h;rw[List.cons_append,wpOpsIn_cons];refine h1.sound hst htok hN fun a' c' hst' hx=>?_
  exact AExec.app hN l hst' (fun p hp=>(htok p hp).ext hx) h2 fun a'' c'' hst'' hx'=>hQ a'' c'' hst'' (hx.trans hx')
theorem Marks.size {c0 c1 c:Ctx}(h:c1.w.heap.size=c0.w.heap.size):∀ {ds:List Deferred},Marks c0 c ds→Marks c1 c ds
 | [],_=>trivial
 |_ :: _,⟨⟨D,e,h1,h2,h3⟩,k⟩=>⟨⟨D,e,by rw[h];exact h1,h2,h3⟩,k.size h⟩
def ud (P:Program)(t:Tok)(q:Code)(all:Array Oper)(o:Oper)(s s1:AS):Prop :=
 gval all s o=some true∧∃f args ts as' H',o.op=.call { callee:=.value f,args:=args,argTypes:=ts }∧s.ev f=.yld t.l∧WeakL (args.toList.map s.ev) as'∧YC P t (some q) as' s.h H'∧s1=({ s with h:=H' }:AS).putO o.dst (.bool false)
theorem oJ {X:Env}{t:Tok}{q:Code}{id:Nat}{ops:Array Oper}{k:List Item}{s s1 s2 s3:AS}{l1 l2:List Nat}{j:Nat}{o:Oper}(hX:X.out=some (t.l,t.r,K3 t.r (some q))) (hrn:X.rnd=none) (htk:t∈X.tok) (hl:List.range ops.size=l1 ++ j :: l2) (hj:ops[j]?=some o)
  (h1:AExec X.P X.tok (fun _=>false) true (fun _=>none) ops l1 s.clr s1) (h2:ud X.P t q ops o s1 s2) (h3:AExec X.P [] (fun _=>false) true (fun _=>none) ops l2 s2 s3)
  (h:Run ⟨X.P,X.fn,X.str,X.hcs,X.base,none,[],none,X.Q⟩ k s3):Run X (.code (.region id ops false) :: k) s:=by
 intro hm ho hrn' c0 c a ds hst hp b cs hf hk hb;have hok:=(Qn.1 ho).1;simp only[Z0,QC,Bool.and_eq_true]at hok;have hN:=FI hok.1;have hN':∀i,o.dst=some i→i<X.fn.ntmps:=hN o (by simpa using Array.mem_of_getElem? hj);have htok:∀p∈X.tok,TokOk c p:=fun p hp'=>(hp.tok p hp').1
 have key:(Code.region id ops false).wpIn (Zv (X.rnd.map (·.1))) 0 X.P (fun e a' w'=>e=.normal∧∃ (a1:Act) (c':Ctx),a'={ a1 with defers:=ds }∧c'.w=w'∧St X.fn.ntmps c' a1 s3∧Kept c' t.l (.loop (K3 t.r (some q)))∧Ext c ⟨c'.w.putObj t.l (.loop t.r),c'.S,c'.γ,c'.H⟩) { a with defers:=ds } c.w:=by
  refine wpIn_region ?_;rw[hl];refine AExec.app hN l1 hst.clr htok h1 fun a1 c1 hst1 hx1=>?_
  rw[wpOpsIn_cons];unfold wpOpIn;simp only[hj];obtain⟨hg,f,args,ts,as',H',hop,hfv,hw,hy,rfl⟩:=h2;rw[show Region.wanted o (yielded ops ({ a1 with defers:=ds }:Act).tmps)=true from FT hst1 hN hg];simp only[if_true];unfold Oper.wpIn;refine⟨fun _ _=>trivial,?_⟩;rw[Oper.semAt_eq _ _ _ (fun q e=>by rw[hop]at e;cases e)];have hrl:=Gm (c:=c1) (ρv:=a1.eval) (ρ:=s1.ev) (fun x=>hst1.ev x) args;have hv:=hst1.ev f;rw[hfv]at hv;have hev:a1.eval f=.func (.yield t.l) #[] #[]:=by generalize a1.eval f=q at hv;cases hv;rfl
  have ht1:TokOk c1 t:=(htok t htk).ext hx1;obtain⟨g,tmps,assign,body,q1,q2⟩:=hy c1 _ hst1.heap hst1.hrel ht1 (hrl.weak hw);have hrun:(execOp ({ a1 with defers:=ds }:Act).eval o).run X.P c1.w=.ok (.round t.l g tmps assign body) c1.w:=by
   show(execOp a1.eval o).run X.P c1.w=_;unfold execOp;rw[hop];simp[resolve,Deferred.ofValue,hev,invoke,q1]
  rw[hrun,Oper.uponIn_round];refine⟨fun e=>by simp[Zv,Fence.wide]at e,RoundIn.mono (F:=Zv _) (R:=fun e w'=>∃S' γ',e=.returned (.bool false)∧w'.heap[t.l]?=some (.loop (K3 t.r (some q)))∧HRel ⟨w'.putObj t.l (.loop t.r),S',γ',H'⟩∧Ext c1 ⟨w'.putObj t.l (.loop t.r),S',γ',H'⟩) q2 ?_⟩;rintro e w' ⟨S',γ',rfl,g1,g2,g3⟩;have hst2:=hst1.putO g3 g2 (d:=o.dst) (v:=.bool false) (x:=.bool false) (.bool false) hN';have hk2:Kept ⟨w'.putObj t.l (.loop t.r),S',γ',H'⟩ t.l (.loop t.r):=ht1.1.ext (g3.toB 0);have hst3:=hst2.poke (o':=.loop (K3 t.r (some q))) hk2;have hk3:=LW (o':=.loop (K3 t.r (some q))) hk2;have ew:(w'.putObj t.l (.loop t.r)).putObj t.l (.loop (K3 t.r (some q)))=w':=by rw[C0];exact Bd g1
  simp only[ew]at hst3 hk3;show wpOpsIn _ _ _ _ _ _ (({ a1 with defers:=ds }:Act).put o.dst (.bool false)) w';rw[C1];refine AExec.sound hN l2 (tok:=[]) hst3 (fun p hp=>absurd hp List.not_mem_nil) h3 fun a' c' hst' hx=>⟨rfl,a',c',rfl,rfl,hst',hk3.ext (hx.toB 0),?_⟩
  have hsw:=(Hl (o:=.loop t.r) (hx.toB H'.length) hk3.lt).toExt (Nat.le_refl _);exact(hx1.trans g3).trans hsw
 obtain⟨e,a',w',⟨rfl,a1,c',rfl,rfl,hst',hkp,hx⟩,harr⟩:=key b k cs hb trivial (I9 _ _);have h0:=hp.out t.l t.r _ hX hrn;have hx2:ExtB X.base c0 ⟨c'.w.putObj t.l (.loop t.r),c'.S,c'.γ,c'.H⟩:=hp.ext.trans (hx.toB _);have e5:(c'.w.putObj t.l (.loop t.r)).putObj t.l (.loop (K3 t.r (some q)))=c'.w:=by rw[C0];exact Bd hkp.1
 have hx3:=Hl (o:=.loop (K3 t.r (some q))) hx2 h0.lt;simp only[e5]at hx3;have hkp0:Kept ⟨c'.w.putObj t.l (.loop t.r),c'.S,c'.γ,c'.H⟩ t.l (.loop t.r):=h0.ext hx2;have hmk:=(hp.marks.ext (hx.toB 0)).pokeLoop hkp0 (.loop (K3 t.r (some q)));simp only[e5]at hmk;obtain⟨v,fr,r,c'',g1,g2,g3,g4,g5,g6,g7⟩:=h hm (Qn.1 ho).2 (fun e=>by cases e) ⟨c0.w.putObj t.l (.loop (K3 t.r (some q))),c0.S,c0.γ,c0.H⟩ c' a1 ds hst'
  ⟨hx3,fun p hp=>absurd hp List.not_mem_nil,fun l r e=>(by cases e),hmk.size (by simp),fun _ _ _ e _=>(by cases e)⟩ b cs hf hk (by rw[hb,hrn])
 replace g5:ExtB X.base ⟨c0.w.putObj t.l (.loop (K3 t.r (some q))),c0.S,c0.γ,c0.H⟩ c'':=g5;refine⟨v,fr,r,c'',Steps.trans (Ev.1 harr) g1,?_,g3,g4,?_,fun l r e=>(by rw[hrn]at e;cases e),g7⟩
 ·unfold ll at g2 ⊢
  rw[hrn];exact g2
 ·unfold Tt
  rw[hX,hrn];refine⟨(LW h0).ext g5,?_⟩;have:=Hl (o:=.loop t.r) g5 (by simpa using h0.lt);simp only[C0]at this;rw[Bd h0.1]at this;exact this
theorem St.ext {N:Nat}{c c':Ctx}{a:Act}{s:AS}(h:St N c a s)(hx:Ext c c')(hr:HRel c'):St N c' a { s with h:=c'.H }:=⟨h.size,h.defers,fun i=>hx.rep h.hrel (h.slots i),rfl,hr⟩
theorem Fx (w:World)(o:Obj):∀b,b<w.heap.size→(w.alloc o).heap[b]?=w.heap[b]?:=fun b hb=>by
 show(w.heap.push o)[b]?=_;rw[Array.getElem?_push_lt hb,Array.getElem?_eq_getElem hb]
def qx (q:Option Code):Option Code:=q
def pU (q:Option Code)(k:List Item):List Item:=((qx q).map Item.code).toList ++ k
theorem En {X:Env}(q:Option Code)(hq:iD q){f:Operand}{ps:Array Nat}{assign body:Code}{k:List Item}{s:AS}{gf:FuncId}{caps:List AV}{Hn:List AO}(hX:X.rnd=none)(htk:X.tok=[])(hf:s.ev f=.fn gf caps)
  (hit:∀t:Tok,LoopIs X.P X.fn ps assign body s t→ICallQ X.P t q gf (.yld t.l :: caps) s.h Hn) (hk:Run X (pU q k) { s with h:=Hn }):Run X (.code (.rangeFunc f ps assign body) :: k) s:=by
 intro hm ho hrn c0 c a ds hst hp b cs hf' hk' hb;have hb0:b.roundOf=none:=by rw[hb,hX];rfl
 obtain⟨rec,hrec⟩:∃rec:Loop,rec={ state:=.ready,pending:=none,fn:=b.fn,tmps:=a.tmps,params:=ps,assign:=assign,body:=body,defers:=c.w.heap.size }:=⟨_,rfl⟩
 obtain⟨w1,hw1⟩:∃w1,w1=(c.w.alloc (.deferred (some []))).alloc (.loop rec):=⟨_,rfl⟩
 have he:=run_enterLoop_outer (P:=X.P) (w:=c.w) b.fn a.tmps ps assign body;rw[←hrec,←hw1,←hb0]at he;have hD1:w1.heap[c.w.heap.size]?=some (.deferred (some [])):=by
  rw[hw1,Fx _ _ _ (by rw[World.size_alloc];omega)];exact World.alloc_heap_new _ _
 have hL1:w1.heap[c.w.heap.size+1]?=some (.loop rec):=by
  rw[hw1];have:=World.alloc_heap_new (c.w.alloc (.deferred (some []))) (.loop rec);rwa[World.size_alloc]at this
 have hold:∀q,q<c.w.heap.size→w1.heap[q]?=c.w.heap[q]?:=fun q hq=>by
  rw[hw1,Fx _ _ _ (by rw[World.size_alloc];omega),Fx _ _ _ hq]
 have hsz:c.w.heap.size≤w1.heap.size:=by rw[hw1,World.size_alloc,World.size_alloc];omega
 have hx1:Ext c ⟨w1,c.S,c.γ,c.H⟩:=⟨HLe.refl c,fun _ h=>h,fun _ h=>.inl h,fun _ h=>.inr h,fun q hq _=>hold q hq,hsz,by rw[hw1];rfl,by rw[hw1];rfl,by rw[hw1];rfl⟩
 have hr1:HRel ⟨w1,c.S,c.γ,c.H⟩:=EM (l:=c.w.heap.size) hst.hrel (fun q=>by have:=hst.hrel.bound _ q;omega) (fun q=>by have:=hst.hrel.ownLt q;omega) hsz (fun q _ hq=>hold q hq);have hst1:St X.fn.ntmps ⟨w1,c.S,c.γ,c.H⟩ a s:=by
  have:=hst.ext hx1 hr1;rwa[show({ s with h:=(⟨w1,c.S,c.γ,c.H⟩:Ctx).H }:AS)=s by show({ s with h:=c.H }:AS)=s;rw[hst.heap]]at this
 have hkL:Kept ⟨w1,c.S,c.γ,c.H⟩ (c.w.heap.size+1) (.loop rec):=⟨hL1,fun q=>by have:=hst.hrel.bound _ q;omega,fun q=>by have:=hst.hrel.ownLt q;omega⟩
 have hkD:Kept ⟨w1,c.S,c.γ,c.H⟩ c.w.heap.size (.deferred (some [])):=⟨hD1,fun q=>by have:=hst.hrel.bound _ q;omega,fun q=>by have:=hst.hrel.ownLt q;omega⟩
 obtain⟨t,ht⟩:∃t:Tok,t=⟨c.w.heap.size+1,rec,⟨w1,c.S,c.γ,c.H⟩⟩:=⟨_,rfl⟩
 have htl:t.l=c.w.heap.size+1:=by rw[ht]
 have hLI:LoopIs X.P X.fn ps assign body s t:=by
  rw[ht,hrec];exact⟨rfl,rfl,hf',rfl,rfl,rfl,⟨a,rfl,hrec▸hst1⟩,hst.heap⟩
 obtain⟨hent,hcall⟩:=hit t hLI;have hfv:=hst.ev f;rw[hf]at hfv;obtain⟨lb,hlb,hrl⟩:∃lb:Array Value,a.eval f=.func (.func gf) #[] lb∧RepL c lb caps:=by
  generalize a.eval f=q at hfv;cases hfv with
  |fn _ vs _ h1 h2=>exact⟨vs,rfl,h1,h2⟩
 have hres:(resolve a.eval (rangeCall f (c.w.heap.size+1)) 0).run X.P w1=.ok { target:=.fn (.func gf) lb,args:=#[.func (.yield (c.w.heap.size+1)) #[] #[]] } w1:=by
  simp only[resolve,hlb];simp[go_sem]
 have hinv:(invoke (.fn (.func gf) lb) #[.func (.yield (c.w.heap.size+1)) #[] #[]]).run X.P w1=.ok (.enter gf (#[.func (.yield (c.w.heap.size+1)) #[] #[]] ++ lb)) w1:=by
  simp[invoke,hent _ _]
 have henter:=stepR_rangeFunc (P:=X.P) (b:=b) (a:={ a with defers:=ds }) (k:=k) (cs:=cs) (w:=c.w) he hres hinv;have hargs:RepL ⟨w1,c.S,c.γ,c.H⟩ (#[.func (.yield (c.w.heap.size+1)) #[] #[]] ++ lb) (.yld t.l :: caps):=by
  have h1:RepL ⟨w1,c.S,c.γ,c.H⟩ #[.func (.yield (c.w.heap.size+1)) #[] #[]] [.yld t.l]:=⟨rfl,fun j hj=>by
   obtain rfl:j=0:=by simpa using hj
   rw[htl];exact .yld _⟩
  have h2:RepL ⟨w1,c.S,c.γ,c.H⟩ lb caps:=⟨hrl.1,fun j hj=>hx1.rep hst.hrel (hrl.2 j hj)⟩
  exact El h1 h2
 have htok:TokOk ⟨w1,c.S,c.γ,c.H⟩ t:=by rw[ht];exact⟨hkL,Ext.refl _⟩
 obtain⟨e,w3,fr,⟨v,S',γ',rfl,hrec3,hr3',hx3'⟩,hsteps,hfn,hleave⟩:=hcall ⟨w1,c.S,c.γ,c.H⟩ _ hst.heap hr1 htok hargs (b.atR { a with defers:=[RD c.w.heap.size] ++ ds } (.inRangeFunc (c.w.heap.size+1) :: k) :: cs);rw[htl,show t.r=rec by rw[ht]]at hrec3 hr3' hx3';obtain⟨wp,hwp⟩:∃wp,wp=w3.putObj (c.w.heap.size+1) (.loop rec):=⟨_,rfl⟩
 rw[←hwp]at hr3' hx3';have hr3:=hr3';have hx3:=hx3';have hkL3:=hkL.ext (hx3.toB 0);have hkD3:=hkD.ext (hx3.toB 0);have hend:=run_endLoop (P:=X.P) hrec3 (by rw[hrec];cases q <;> simp[K3]);obtain⟨rx,hrx⟩:∃rx:Loop,rx={ K3 rec q with state:=.exhausted }:=⟨_,rfl⟩
 rw[←hrx]at hend;have hpend:(K3 rec q).pending=qx q:=by rw[hrec];cases q <;> rfl
 rw[hpend]at hend;have ewp:w3.putObj (c.w.heap.size+1) (.loop rx)=wp.putObj (c.w.heap.size+1) (.loop rx):=by rw[hwp,C0]
 rw[ewp]at hend;have hback:=step_leave_returned (c:=b.atR { a with defers:=[RD c.w.heap.size] ++ ds } (.inRangeFunc (c.w.heap.size+1) :: k)) (cs:=cs) hleave;rw[finish_atR_inRangeFunc]at hback;have hout:=stepR_endRangeFunc (P:=X.P) (b:=b) (a:={ a with defers:=[RD c.w.heap.size] ++ ds }) (k:=k) (cs:=cs) hend;have hst3:St X.fn.ntmps ⟨wp,S',γ',Hn⟩ a { s with h:=Hn }:=hst1.ext hx3 hr3;have hst4:=hst3.poke (o':=.loop rx) hkL3;have hxB:ExtB X.base c0 ⟨wp.putObj (c.w.heap.size+1) (.loop rx),S',γ',Hn⟩:=by
  have h1:=(hp.ext.trans (hx1.toB _)).trans (hx3.toB _);have h2:=hp.ext.size;exact Rj (c:=⟨wp,S',γ',Hn⟩) (l:=c.w.heap.size+1) h1 (by omega) (by simp) (J5 _ _ _) rfl rfl rfl
 have hmk:Marks c0 ⟨wp.putObj (c.w.heap.size+1) (.loop rx),S',γ',Hn⟩ (RD c.w.heap.size :: ds):=by
  have hd:∀ds:List Deferred,Marks c0 c ds→RD c.w.heap.size∉ds:=by
   intro ds
   induction ds with
   |nil=>simp
   |cons d ds ih =>
    rintro⟨⟨D,rfl,q1,q2,q3⟩,q⟩ hmem;rcases List.mem_cons.1 hmem with e |e
    ·have:c.w.heap.size=D:=by injection e with e1;injection e1
     have:=q2.lt;omega
    ·exact ih q e
  refine⟨⟨_,rfl,hp.ext.size,hkD3.poke (by omega) (J5 _ _ _),hd ds hp.marks⟩,?_⟩;exact(((hp.marks.ext (hx1.toB 0)).ext (hx3.toB 0))).pokeLoop hkL3 _
 obtain⟨v',fr',r',c',k1,k2⟩:=hk hm (by cases q with
  |none=>exact(Qn.1 ho).2
  |some c=>rcases hq c rfl with rfl | ⟨id,rfl⟩ <;> exact Qn.2 ⟨rfl,(Qn.1 ho).2⟩) hrn c0 ⟨wp.putObj (c.w.heap.size+1) (.loop rx),S',γ',Hn⟩ a (RD c.w.heap.size :: ds) hst4
  ⟨hxB,fun p hp'=>absurd hp' (by rw[htk];exact List.not_mem_nil),fun l r e=>(by rw[hX]at e;cases e),hmk,hp.out⟩ b cs hf' hk' hb
 refine⟨v',fr',r',c',.head henter (Steps.trans (show Steps X.P _ _ from hsteps) (  .head hback (.head hout k1))),?_,k2.2⟩;have:=k2.1;unfold ll at this ⊢;rw[hX]at this ⊢;exact this
theorem Fs {X:Env}{f:Operand}{ps:Array Nat}{assign body:Code}{k:List Item}{s:AS}{gf:FuncId}{caps:List AV}{Hn:List AO}(hX:X.rnd=none)(htk:X.tok=[])(hf:s.ev f=.fn gf caps)
  (hit:∀t:Tok,LoopIs X.P X.fn ps assign body s t→ICall X.P t gf (.yld t.l :: caps) s.h Hn) (hk:Run X k { s with h:=Hn }):Run X (.code (.rangeFunc f ps assign body) :: k) s :=
 En none (fun c e=>by cases e) hX htk hf hit hk
section
variable (P:Program) (fn:Func) (str hcs:List Nat) (m l:Nat) (r:Loop) (t:Tok) (q:Code) (H:List AO)
theorem rO:(U6 P fn str hcs t m H).P=P:=nrfl rfl
theorem ga:(U6 P fn str hcs t m H).str=str:=nrfl rfl
theorem g9:(U6 P fn str hcs t m H).hcs=hcs:=nrfl rfl
theorem rR:(Rf P fn str hcs m l r H).P=P:=nrfl rfl
theorem gq:(Rf P fn str hcs m l r H).str=888888 :: str:=nrfl rfl
theorem go:(Rf P fn str hcs m l r H).hcs=hcs:=nrfl rfl
theorem rP:(gc P fn str hcs t q m H).P=P:=nrfl rfl
theorem ge:(gc P fn str hcs t q m H).str=str:=nrfl rfl
end
theorem vn {P:Program}{fn:Func}{str hcs:List Nat}{t:Tok}{m:Nat}{H:List AO}{s:AS}(hr:fn.results=#[])(h:s.h.take m=H):RetE (U6 P fn str hcs t m H) s :=
 ⟨.tup [],by show ZN P fn s=_;simp[ZN,hr,Jj,Bb],h⟩
theorem wt {P:Program}{fn:Func}{str hcs:List Nat}{m:Nat}{H:List AO}{s:AS}(hr:fn.results=#[])(h:s.h.take m=H):RetOk (uN P fn str hcs m H) s :=
 ⟨.tup [],by show ZN P fn s=_;simp[ZN,hr,Jj,Bb],h⟩
theorem wu {P:Program}{fn:Func}{str hcs:List Nat}{m l:Nat}{r:Loop}{H:List AO}{s:AS}(h:s.h.take m=H):RetE (Rf P fn str hcs m l r H) s:=⟨.any,rfl,h⟩
theorem U8 {P:Program}{fn:Func}{str hcs:List Nat}{m l:Nat}{r:Loop}{H:List AO}{k:List Item}{s:AS}(hr:r.state=.ready)(h:Run (Rf P fn str hcs m l { r with state:=.busy } H) k s):Run (Rf P fn str hcs m l r H) (.beginRound :: k) s :=
 O4 (X:=Rf P fn str hcs m l r H) rfl rfl hr h
theorem MI (X:Env)(n:Nat)(f:Operand)(ps:Array Nat)(a b:Code)(k:List Item)(s:AS):vc X (n+1) (.code (.rangeFunc f ps a b) :: k) s=WS X (.code (.rangeFunc f ps a b) :: k) .mk s:=nrfl rfl
theorem WQ (X:Env)(n:Nat)(k:List Item)(s:AS):vc X (n+1) (.beginRound :: k) s=WS X (.beginRound :: k) .mk s:=nrfl rfl
set_option linter.defProp false
def Jb:=XK @MI <| XK @WQ <| XK @rO <| XK @ga <| XK @g9 <| XK @rR <| XK @gq <| XK @go <| XK @rP <| @ge
end
end Go.Ab
